/-
  DERIVED. EraP, WErasures.
-/
import Derived.Test.YtenelpollcabnaaDSL
import Derived.Test.YtenelpollcabnaaStkR
import Derived.Test.YtenelpollcabnaaStkT
import Derived.Test.YtenelpollcabnaaLikQ
import Derived.BigQuiet
import Derived.Test.YtenelpollcabnaaPatG
import Derived.Test.YtenelpollcabnaaDice
import Derived.Deep.Cut
namespace Go.Proofs.Ytenelpollcabnaa
open Go.RowKit
set_option linter.unusedVariables false
theorem flat_getE {gs : List Int} {C co : Nat} (hC : (C - 15) / 11 - 2 = co) : ∀ {R r k : Nat}, r < R → k < co → (flatP gs C R).getD (r * co + k) 0 = (gVal gs C r).getD (k + 1) 0 := by
  intro R
  induction R with
  | zero => intro r k h; omega
  | succ R ih =>
    intro r k hr hk
    have hl : (flatP gs C R).length = R * co := by rw [flatP_len, hC]
    rw [flatP_succ, List.getD_eq_getElem?_getD]
    rcases Nat.lt_or_ge r R with h | h
    · have h1 : r * co + co ≤ R * co := row_fits h
      rw [List.getElem?_append_left (by omega), ← List.getD_eq_getElem?_getD]
      exact ih h hk
    · obtain rfl : r = R := by omega
      rw [List.getElem?_append_right (by omega), hl, Nat.add_sub_cancel_left, ← List.getD_eq_getElem?_getD]
      exact inner_get (by rw [gVal_len]; omega)
theorem negs_mem {X : List Int} {i : Nat} (hi : i < X.length) : (i : Int) ∈ negs X ↔ X.getD i 0 < 0 := by
  unfold negs
  simp only [List.mem_map, List.mem_filter, List.mem_range, decide_eq_true_eq]
  constructor
  · rintro ⟨j, ⟨_, h⟩, e⟩
    obtain rfl : j = i := by omega
    exact h
  · exact fun h => ⟨i, ⟨hi, h⟩, rfl⟩
theorem elV_get {X : List Int} {i : Nat} (hi : i < X.length) : (elV X).getD i 0 = pos0 (X.getD i 0) := by
  unfold elV
  simp [List.getD_eq_getElem?_getD, List.getElem?_map, List.getElem?_eq_getElem hi]
theorem row_lim {C co : Nat} (hC : C = 15 + 11 * (co + 2)) (h : co ≤ 8) : limB C = true := limB_iff.2 ⟨by omega, by omega, by omega⟩
set_option maxHeartbeats 2000000 in
theorem lHasQ (a : Option Addr) (n c : Nat) (xs : List Int) (v : Int) (w : World) (h : Rd w a n xs) (hn : n ≤ 1048576) :
    Calls Try.prog 28 #[.slice a n c, .int .i64 v] w fun e w' => e = .returned (.bool (decide (v ∈ xs))) ∧ w = w' := by
  obtain ⟨hl, hr⟩ := h
  have HL := Lib.hid hl
  clear hl
  rcases Nat.eq_zero_or_pos n with h0 | h0
  · have h1 : n ≤ 0 := by omega
    have hx : xs = [] := List.length_eq_zero_iff.1 (by rw [HL.out]; omega)
    subst hx
    clear hr h0
    go_enter Try.func28, Try.ntmps28
    go_wp2
    refine wp_loop_rounds 1 ?_; rw [rounds_succ]
    go_wp2
    go_returns
    exact ⟨by simp, rfl⟩
  · obtain ⟨b, off, rfl, hb, hc⟩ := hr h0
    have HC := Lib.hid hc
    clear hr hc
    go_enter Try.func28, Try.ntmps28
    go_wp2
    go_loop [5] (fun i => ∃ k : Nat, k ≤ n ∧ i = .int .i64 k ∧ Hid (∀ j, j < k → xs.getD j 0 ≠ v)) (fun i => n - (intOf i).toNat)
    case atStart => exact ⟨0, Nat.zero_le _, rfl, fun j hj => absurd hj (by omega)⟩
    case round =>
      obtain ⟨k, hk, rfl, HA⟩ := hrel
      by_cases hlt : k < n
      · have hx : w.cell? ⟨b, off + k, none⟩ = some (.int .i64 (xs.getD k 0)) := HC.out k hlt
        have HM : Hid (xs.getD k 0 ∈ xs) := getD_mem (by rw [HL.out]; exact hlt)
        obtain ⟨x, hxv⟩ : ∃ x, xs.getD k 0 = x := ⟨_, rfl⟩
        rw [hxv] at hx HM
        have HX := Lib.hid hxv
        clear hxv
        have k0 : (0 : Int) ≤ (k : Int) := Int.natCast_nonneg _
        have k1 : (k : Int) < (n : Int) := by omega
        by_cases hne : x = v
        · have hnb : (x == v) = true := by simpa using hne
          have HD : Hid (decide (v ∈ xs) = true) := by unfold Hid; rw [← hne]; exact decide_eq_true HM.out
          clear hne
          go_wp2
          go_returns
          exact ⟨by rw [HD.out]; rfl, rfl⟩
        · have hnb : (x == v) = false := by simpa using hne
          have HA2 : Hid (∀ j, j < k + 1 → xs.getD j 0 ≠ v) := fun j hj => by
            rcases Nat.lt_or_ge j k with h4 | h4
            · exact HA.out j h4
            · obtain rfl : j = k := by omega
              rw [HX.out]; exact hne
          clear hne
          go_wp2
          go_round
          case rel => exact ⟨k + 1, by omega, by go_num, HA2⟩
          case measure => simp [intOf]; omega
      · have hke : (n : Int) ≤ (k : Int) := by omega
        have HD : Hid (decide (v ∈ xs) = false) := by
          unfold Hid
          refine decide_eq_false fun hm => ?_
          obtain ⟨j, hj, e⟩ := List.getElem_of_mem hm
          exact HA.out j (by have := HL.out; omega) (by rw [List.getD_eq_getElem?_getD, List.getElem?_eq_getElem hj]; exact e)
        go_wp2
        go_returns
        exact ⟨by rw [HD.out]; rfl, rfl⟩
/-- A drawn symbol that can be read. -/
def EraGood (f : FamR) (r c : Int) (gn : Nat) (gs X : List Int) : Prop := ∃ R co C : Nat, f.col = (co : Int) ∧ r = (R : Int) ∧ c = (C : Int) ∧ C = 15 + 11 * (co + 2) ∧ 1 ≤ co ∧ co ≤ 8 ∧ 1 ≤ R ∧ R ≤ 40000 ∧ gn = R * C ∧ (∀ x ∈ gs, -1 ≤ x ∧ x ≤ 1) ∧ X = flatP gs C R
theorem era_case (f : FamR) (r c : Int) (ga : Option Addr) (gn gc : Nat) (gs : List Int) (hnm : f.nm.size ≤ 100) (hsn : f.sn ≤ 10) (hln : f.ln ≤ 10) (hgn : gn ≤ 4000) (hgc : gn ≤ gc) (hgm : gc ≤ maxLen) : ∃ (X : List Int) (o o1 o2 : Int),
    (∀ (W : World), Rd W f.sa f.sn f.zs → Rd W f.la f.ln f.ls → Rd W ga gn gs → Calls Try.prog 20 #[.agg #[.string f.nm, .int .i64 f.kd, .int .i64 f.p, .int .i64 f.q, .int .i64 f.r, .slice f.sa f.sn f.sc, .int .i64 f.col, .slice f.la f.ln f.lc], .agg #[.int .i64 r, .int .i64 c, .slice ga gn gc]] W (ResE W X o)) ∧
    (∀ (W : World), Rd W f.sa f.sn f.zs → Rd W f.la f.ln f.ls → Rd W ga gn gs → Calls Try.prog 21 #[.agg #[.string f.nm, .int .i64 f.kd, .int .i64 f.p, .int .i64 f.q, .int .i64 f.r, .slice f.sa f.sn f.sc, .int .i64 f.col, .slice f.la f.ln f.lc], .agg #[.int .i64 r, .int .i64 c, .slice ga gn gc]] W (ResE W X o)) ∧
    (∀ (W : World), Rd W f.sa f.sn f.zs → Rd W f.la f.ln f.ls → Rd W ga gn gs → Calls Try.prog 23 #[.agg #[.string f.nm, .int .i64 f.kd, .int .i64 f.p, .int .i64 f.q, .int .i64 f.r, .slice f.sa f.sn f.sc, .int .i64 f.col, .slice f.la f.ln f.lc], .agg #[.int .i64 r, .int .i64 c, .slice ga gn gc]] W fun e w' => e = .returned (.tuple #[.int .i64 o1, .int .i64 o2]) ∧ Below W.heap.size W w') ∧
    (∀ (W : World), Rd W f.sa f.sn f.zs → Rd W f.la f.ln f.ls → Rd W ga gn gs → Calls Try.prog 24 #[.agg #[.string f.nm, .int .i64 f.kd, .int .i64 f.p, .int .i64 f.q, .int .i64 f.r, .slice f.sa f.sn f.sc, .int .i64 f.col, .slice f.la f.ln f.lc], .agg #[.int .i64 r, .int .i64 c, .slice ga gn gc]] W fun e w' => e = .returned (.tuple #[.int .i64 o1, .int .i64 o2]) ∧ Below W.heap.size W w') ∧
    (o ≠ 0 ∨ (o = 0 ∧ EraGood f r c gn gs X)) := by
  obtain ⟨o, ho⟩ : ∃ o, stkO f.nm f.kd f.p f.q f.r f.sn f.zs f.col f.ln f.ls r c gn gs = o := ⟨_, rfl⟩
  have hm : f.nm.size ≤ maxLen := by unfold maxLen; omega
  by_cases h0 : o = 0
  case neg => exact ⟨[], o, 0, o, fun W h1 h2 h3 => iSE_no f.nm f.kd f.p f.q f.r f.sa f.sn f.sc f.col f.la f.ln f.lc f.zs f.ls r c ga gn gc gs W hm h1 (by omega) h2 (by omega) h3 (by omega) o ho h0, fun W h1 h2 h3 => sSE_no f.nm f.kd f.p f.q f.r f.sa f.sn f.sc f.col f.la f.ln f.lc f.zs f.ls r c ga gn gc gs W hm h1 (by omega) h2 (by omega) h3 (by omega) o ho h0, fun W h1 h2 h3 => iSL_no f.nm f.kd f.p f.q f.r f.sa f.sn f.sc f.col f.la f.ln f.lc f.zs f.ls r c ga gn gc gs W hm h1 (by omega) h2 (by omega) h3 (by omega) o ho h0, fun W h1 h2 h3 => sSL_no f.nm f.kd f.p f.q f.r f.sa f.sn f.sc f.col f.la f.ln f.lc f.zs f.ls r c ga gn gc gs W hm h1 (by omega) h2 (by omega) h3 (by omega) o ho h0, .inl h0⟩
  subst h0
  obtain ⟨k1, k2, k3⟩ := stkO_zero ho
  obtain ⟨-, c1, c8⟩ := stk_col k1
  have hl := stk_lv k1
  obtain ⟨g1, g2, g3, g4, g5, g6, g7, g8⟩ := gridB_yes k2
  obtain ⟨co, hco⟩ := Int.eq_ofNat_of_zero_le (show 0 ≤ f.col by omega)
  obtain ⟨R, rfl⟩ := Int.eq_ofNat_of_zero_le (show 0 ≤ r by omega)
  obtain ⟨C, rfl⟩ := Int.eq_ofNat_of_zero_le (show 0 ≤ c by omega)
  have hC : C = 15 + 11 * (co + 2) := by omega
  have hN : gn = R * C := by
    have h7 : (R : Int) * (C : Int) = ((R * C : Nat) : Int) := by simp
    omega
  rw [hco] at ho ⊢
  obtain ⟨⟨o1, o2⟩, hv⟩ : ∃ p, lvO gs C co f.ln R = p := ⟨_, rfl⟩
  refine ⟨flatP gs C R, 0, o1, o2, fun W h1 h2 h3 => iSE_ok f.nm f.kd f.p f.q f.r f.sa f.sn f.sc co f.la f.ln f.lc f.zs f.ls R C ga gn gc gs W hm h1 (by omega) h2 (by omega) h3 (by omega) hgc hgm ho hC (by omega) (by omega) hN g8, fun W h1 h2 h3 => sSE_ok f.nm f.kd f.p f.q f.r f.sa f.sn f.sc co f.la f.ln f.lc f.zs f.ls R C ga gn gc gs W hm h1 (by omega) h2 (by omega) h3 (by omega) hgc hgm ho hC (by omega) (by omega) hN g8, fun W h1 h2 h3 => iSL_ok f.nm f.kd f.p f.q f.r f.sa f.sn f.sc co f.la f.ln f.lc f.zs f.ls R C ga gn gc gs W hm h1 (by omega) h2 (by omega) h3 (by omega) hgc hgm ho hC (by omega) (by omega) hN g8 o1 o2 hv hl.1 hl.2, fun W h1 h2 h3 => sSL_ok f.nm f.kd f.p f.q f.r f.sa f.sn f.sc co f.la f.ln f.lc f.zs f.ls R C ga gn gc gs W hm h1 (by omega) h2 (by omega) h3 (by omega) hgc hgm ho hC (by omega) (by omega) hN g8 o1 o2 hv hl.1 hl.2, .inr ⟨rfl, R, co, C, hco, rfl, rfl, hC, by omega, by omega, by omega, by omega, hN, g8, rfl⟩⟩
end Go.Proofs.Ytenelpollcabnaa
namespace Go.Proofs.Ytenelpollcabnaa
open Go.RowKit
set_option linter.unusedVariables false
theorem own_capsE {w : World} {base n c m : Nat} {t : TypeId} {a : Option Addr} {xs : List Value} (h : w.ownsRow base t m (.slice a n c) n xs) : n ≤ c ∧ c ≤ maxLen := by
  rcases h.2 with ⟨hv, h0⟩ | ⟨g, cap, cur, hv, hg, hh, h1, h2, _⟩
  · injection hv with _ _ e
    unfold maxLen
    omega
  · injection hv with _ _ e
    omega
/-- What the walk keeps of the drawn symbol and its two boxes. -/
structure EraK (w : World) (b : Nat) (f : FamR) (r c : Int) (ga : Option Addr) (gn gc : Nat) (gs : List Int) (W : World) : Prop where
  s1 : Rd W f.sa f.sn f.zs
  s2 : Rd W f.la f.ln f.ls
  s3 : Rd W ga gn gs
  fa : RowL W b f.cells
  gr : Box3 W (b + 1) (.int .i64 r) (.int .i64 c) (.slice ga gn gc)
  bl : Below w.heap.size w W
theorem EraK.below {w W W' : World} {b : Nat} {f : FamR} {r c : Int} {ga : Option Addr} {gn gc : Nat} {gs : List Int} (h : EraK w b f r c ga gn gc gs W) (hb : Below W.heap.size W W') : EraK w b f r c ga gn gc gs W' :=
  ⟨h.s1.below hb, h.s2.below hb, h.s3.below hb, h.fa.keep hb, h.gr.keep hb, h.bl.trans (hb.mono h.bl.size)⟩
theorem EraK.f8 {w W : World} {b : Nat} {f : FamR} {r c : Int} {ga : Option Addr} {gn gc : Nat} {gs : List Int} (h : EraK w b f r c ga gn gc gs W) :
    W.cell? ⟨b, 0, none⟩ = some (.string f.nm) ∧ W.cell? ⟨b, 1, none⟩ = some (.int .i64 f.kd) ∧ W.cell? ⟨b, 2, none⟩ = some (.int .i64 f.p) ∧ W.cell? ⟨b, 3, none⟩ = some (.int .i64 f.q) ∧ W.cell? ⟨b, 4, none⟩ = some (.int .i64 f.r) ∧ W.cell? ⟨b, 5, none⟩ = some (.slice f.sa f.sn f.sc) ∧ W.cell? ⟨b, 6, none⟩ = some (.int .i64 f.col) ∧ W.cell? ⟨b, 7, none⟩ = some (.slice f.la f.ln f.lc) :=
  ⟨(h.fa.2 0 _ rfl).1, (h.fa.2 1 _ rfl).1, (h.fa.2 2 _ rfl).1, (h.fa.2 3 _ rfl).1, (h.fa.2 4 _ rfl).1, (h.fa.2 5 _ rfl).1, (h.fa.2 6 _ rfl).1, (h.fa.2 7 _ rfl).1⟩
theorem EraK.start (w w0 : World) (f : FamR) (r c : Int) (ga : Option Addr) (gn gc : Nat) (gs : List Int) (s1 : Rd w0 f.sa f.sn f.zs) (s2 : Rd w0 f.la f.ln f.ls) (s3 : Rd w0 ga gn gs) (hb : Below w.heap.size w w0) (t u : TypeId) :
    EraK w w0.heap.size f r c ga gn gc gs ((w0.alloc (.cells #[.string f.nm, .int .i64 f.kd, .int .i64 f.p, .int .i64 f.q, .int .i64 f.r, .slice f.sa f.sn f.sc, .int .i64 f.col, .slice f.la f.ln f.lc] t)).alloc (.cells #[.int .i64 r, .int .i64 c, .slice ga gn gc] u)) := by
  have h2 : Below w0.heap.size w0 ((w0.alloc (.cells #[.string f.nm, .int .i64 f.kd, .int .i64 f.p, .int .i64 f.q, .int .i64 f.r, .slice f.sa f.sn f.sc, .int .i64 f.col, .slice f.la f.ln f.lc] t)).alloc (.cells #[.int .i64 r, .int .i64 c, .slice ga gn gc] u)) := ((Below.refl _ _).alloc (Nat.le_refl _) _).alloc (by simp) _
  have h3 := Box3.new (w0.alloc (.cells #[.string f.nm, .int .i64 f.kd, .int .i64 f.p, .int .i64 f.q, .int .i64 f.r, .slice f.sa f.sn f.sc, .int .i64 f.col, .slice f.la f.ln f.lc] t)) u (.int .i64 r) (.int .i64 c) (.slice ga gn gc)
  rw [World.size_alloc] at h3
  exact ⟨s1.below h2, s2.below h2, s3.below h2, (RowL.new w0 t f.cells).alloc _, h3, hb.trans (h2.mono hb.size)⟩
set_option maxRecDepth 100000 in
set_option maxHeartbeats 8000000 in
theorem walk_FnStackErasures (code_a : Option Addr) (code_n code_c : Nat) (code_z : List Int) (w : World) (h_code : Ints .u8 w code_a code_n code_c code_z) :
    Calls Try.prog 4 #[.slice code_a code_n code_c] w fun e w' => e = .returned (.bool true) ∧ Below w.heap.size w w' := by
  have hmx := h_code.max
  have HBY := Lib.hid h_code.bytes
  clear h_code
  by_cases hbig : 4096 < code_n
  · have tb : decide ((4096 : Int) < (code_n : Int)) = true := by simp; omega
    go_enter Try.func4, Try.ntmps4
    go_wp2_with fail
    refine (lBig _ _ _ _ hmx).mono ?_
    rintro e w' ⟨rfl, rfl⟩
    rw [tb]
    go_wp2
    go_returns
    exact ⟨rfl, by repeat' (first | (with_reducible exact Below.refl _ _) | (with_reducible assumption) | (with_reducible refine Below.alloc ?_ ?_ _) | (with_reducible refine Below.setCell ?_ ?_ _) | (with_reducible refine Below.drew ?_) | (with_reducible refine below_drewN ?_ _) | (with_reducible refine below_via (by with_reducible assumption) ?_ ?_) | go_size)⟩
  have tb : decide ((4096 : Int) < (code_n : Int)) = false := by simp; omega
  go_enter Try.func4, Try.ntmps4
  go_wp2_with fail
  refine (lBig _ _ _ _ hmx).mono ?_
  rintro e w' ⟨rfl, rfl⟩
  rw [tb]
  clear tb
  go_wp2_with fail
  refine (dSL _ _ _ _ HBY.out (by omega)).mono ?_
  rintro e w0 ⟨f, r, c, ga, gn, gc, gs, rfl, hnm, s1, hsn, s2, hln, s3, hgn, hgc, hgm, hb⟩
  obtain ⟨X, code, o1, o2, hI, hS, hLI, hLS, hcase⟩ := era_case f r c ga gn gc gs hnm hsn hln hgn hgc hgm
  have HI := Lib.hid hI
  have HS := Lib.hid hS
  have HLI := Lib.hid hLI
  have HLS := Lib.hid hLS
  have HCs := Lib.hid hcase
  clear hI hS hLI hLS hcase
  have hw0 := hb.size
  obtain ⟨w1, hw1⟩ : ∃ W : World, W = (w0.alloc (.cells #[.string f.nm, .int .i64 f.kd, .int .i64 f.p, .int .i64 f.q, .int .i64 f.r, .slice f.sa f.sn f.sc, .int .i64 f.col, .slice f.la f.ln f.lc] 34)).alloc (.cells #[.int .i64 r, .int .i64 c, .slice ga gn gc] 29) := ⟨_, rfl⟩
  have hk := EraK.start w w0 f r c ga gn gc gs s1 s2 s3 hb 34 29
  rw [← hw1] at hk
  obtain ⟨b, hb0⟩ : ∃ b, b = w0.heap.size := ⟨_, rfl⟩
  have K1 : Hid (EraK w b f r c ga gn gc gs w1) := by rw [hb0]; exact hk
  have hz1 : w1.heap.size = b + 2 := by rw [hw1, hb0]; simp
  have hwb : w.heap.size ≤ b := by omega
  clear hk s1 s2 s3 hb hw0
  go_wp2_with fail
  rw [← hw1, ← hb0]
  clear hw1 hb0
  obtain ⟨c0, c1, c2, c3, c4, c5, c6, c7⟩ := K1.out.f8
  obtain ⟨q_, q0, q1, q2⟩ := K1.out.gr
  go_wp2_with fail
  refine (HI.out _ K1.out.s1 K1.out.s2 K1.out.s3).mono ?_
  rintro e w2 ⟨v2, u2, rfl, hd, hb, hX⟩
  obtain ⟨xa, xc, rfl⟩ := ownN_shape hd.rowV
  obtain ⟨ua, uc, rfl⟩ := ownN_shape hd.rowU
  have X2 : Hid (Rd w2 xa X.length (elV X)) := own_rd hd.rowV
  have U2 : Hid (Rd w2 ua (negs X).length (negs X)) := own_rd hd.rowU
  have K2 := Lib.hid (K1.out.below hb)
  have hz2 := hb.size
  clear hd hb c0 c1 c2 c3 c4 c5 c6 c7 q_ q0 q1 q2 K1
  obtain ⟨c0, c1, c2, c3, c4, c5, c6, c7⟩ := K2.out.f8
  obtain ⟨q_, q0, q1, q2⟩ := K2.out.gr
  go_wp2_with fail
  refine (HS.out _ K2.out.s1 K2.out.s2 K2.out.s3).mono ?_
  rintro e w3 ⟨v3, u3, rfl, hd, hb, -⟩
  obtain ⟨ya, yc, rfl⟩ := ownN_shape hd.rowV
  obtain ⟨va, vc, rfl⟩ := ownN_shape hd.rowU
  have Y3 : Hid (Rd w3 ya X.length (elV X)) := own_rd hd.rowV
  have V3 : Hid (Rd w3 va (negs X).length (negs X)) := own_rd hd.rowU
  have X3 := Lib.hid (X2.out.below hb)
  have U3 := Lib.hid (U2.out.below hb)
  have K3 := Lib.hid (K2.out.below hb)
  have hz3 := hb.size
  clear hd hb c0 c1 c2 c3 c4 c5 c6 c7 q_ q0 q1 q2 K2 X2 U2
  have hneg : (negs X).length ≤ 40000 := Nat.le_trans (negs_len X) hX
  have tn : (code != code) = false := by simp
  go_wp2_with fail
  refine (lLike _ _ _ _ _ _ (elV X) _ X3.out Y3.out (by omega)).mono ?_
  rintro e w4 ⟨rfl, hb⟩
  have X4 := Lib.hid (X3.out.below hb)
  have U4 := Lib.hid (U3.out.below hb)
  have V4 := Lib.hid (V3.out.below hb)
  have K4 := Lib.hid (K3.out.below hb)
  have hz4 := hb.size
  clear hb K3 X3 U3 V3 Y3
  go_wp2_with fail
  refine (lLike _ _ _ _ _ _ (negs X) _ U4.out V4.out (by omega)).mono ?_
  rintro e w5 ⟨rfl, hb⟩
  have X5 := Lib.hid (X4.out.below hb)
  have U5 := Lib.hid (U4.out.below hb)
  have K5 := Lib.hid (K4.out.below hb)
  have hz5 := hb.size
  clear hb K4 X4 U4 V4 tn
  obtain ⟨c0, c1, c2, c3, c4, c5, c6, c7⟩ := K5.out.f8
  obtain ⟨q_, q0, q1, q2⟩ := K5.out.gr
  go_wp2_with fail
  refine (HLI.out _ K5.out.s1 K5.out.s2 K5.out.s3).mono ?_
  rintro e w6 ⟨rfl, hb⟩
  have X6 := Lib.hid (X5.out.below hb)
  have U6 := Lib.hid (U5.out.below hb)
  have K6 := Lib.hid (K5.out.below hb)
  have hz6 := hb.size
  clear hb c0 c1 c2 c3 c4 c5 c6 c7 q_ q0 q1 q2 K5 X5 U5
  obtain ⟨c0, c1, c2, c3, c4, c5, c6, c7⟩ := K6.out.f8
  obtain ⟨q_, q0, q1, q2⟩ := K6.out.gr
  go_wp2_with fail
  refine (HLS.out _ K6.out.s1 K6.out.s2 K6.out.s3).mono ?_
  rintro e w7 ⟨rfl, hb⟩
  have X7 := Lib.hid (X6.out.below hb)
  have U7 := Lib.hid (U6.out.below hb)
  have K7 := Lib.hid (K6.out.below hb)
  have hz7 := hb.size
  clear hb c0 c1 c2 c3 c4 c5 c6 c7 q_ q0 q1 q2 K6 X6 U6 HI HS HLI HLS
  have tn1 : (o1 != o1) = false := by simp
  have tn2 : (o2 != o2) = false := by simp
  rcases HCs.out with h0 | ⟨rfl, hgood⟩
  · have tc : (code != 0) = true := by simp [h0]
    clear h0 HCs
    go_wp2_with fail
    go_returns
    exact ⟨rfl, K7.out.bl⟩
  obtain ⟨R, co, C, hco, rfl, rfl, hC, co1, co8, R1, R4, hN, hbd, hXe⟩ := hgood
  have HCo := Lib.hid hco
  have HC := Lib.hid hC
  have HN := Lib.hid hN
  have HBd := Lib.hid hbd
  have HXe := Lib.hid hXe
  clear hco hC hN hbd hXe HCs
  have hwz7 := K7.out.bl.size
  have hbz7 : b < w7.heap.size := by omega
  have hbz7' : b + 1 < w7.heap.size := by omega
  have DB : Below w7.heap.size w7 w7.drew := (Below.refl _ _).drew
  have K7d := Lib.hid (K7.out.below DB)
  have BY7 : Hid (BytesIn w7.drew code_a code_n w7.heap.size) := (HBY.out.kept (fun b hb => K7.out.bl.block b hb) |> fun h hp => by obtain ⟨b, off, e, h1, h2⟩ := h hp; exact ⟨b, off, e, Nat.lt_of_lt_of_le h1 K7.out.bl.size, h2⟩)
  have DBh := Lib.hid DB
  clear DB
  go_upto_region 14 with (fail)
  go_cut [15] from 78 (fun v wx => ∃ q : Nat, v = .int .i64 (q : Int) ∧ q < R ∧ Hid (Below w7.heap.size w7 wx))
  case first =>
    obtain ⟨q_, q0, q1, q2⟩ := K7.out.gr
    go_region_law ((go_simp; (first | (refine (lRoll _ _ _ _ _ BY7.out (by omega)).mono ?_; rintro e w8 ⟨rfl, hd8, hb8⟩; have q8 : w8.cell? ⟨b + 1, 0, none⟩ = some (.int .i64 (R : Int)) := (K7d.out.below hb8).gr.2.1; have hz8 := hb8.size; (try simp at hz8)) | (refine (lBelow _ _ _ hd8 (by omega) (by omega)).mono ?_; rintro e w9 ⟨x, rfl, x0, x1, hd9, hg9⟩))))
    all_goals
      obtain ⟨q, rfl⟩ := Int.eq_ofNat_of_zero_le x0
      have HB9 : Hid (Below w7.heap.size w7 w9) := (DBh.out.trans hb8).grown hg9 (by omega) (fun j e => by injection e with e; (try simp at e); omega)
      have hqR : q < R := by omega
      clear hd9 hg9 hd8 hb8 q8 q_ q0 q1 q2 x0 x1
      go_wp2_with fail
      all_goals
        go_meet
        case rel => exact ⟨q, rfl, hqR, HB9.out⟩
  obtain ⟨q, rfl, hqR, HB9⟩ := hcut
  obtain ⟨w9, rfl⟩ : ∃ W : World, W = wc := ⟨_, rfl⟩
  have X9 := Lib.hid (X7.out.below HB9.out)
  have U9 := Lib.hid (U7.out.below HB9.out)
  have K9 := Lib.hid (K7.out.below HB9.out)
  have hz9 := HB9.out.size
  clear HB9 K7 X7 U7 BY7 K7d DBh
  obtain ⟨i0, hi, hiz, hi1, hi2⟩ := info_parts infoInt
  have hfit : q * C + C ≤ gn := by rw [HN.out]; exact row_fits hqR
  obtain ⟨gb, off, rfl, hgb, -⟩ := K9.out.s3.2 (by have := HC.out; omega)
  obtain ⟨m, hm⟩ : ∃ m, q * C = m := ⟨_, rfl⟩
  rw [hm] at hfit
  have hC1 : C ≤ 200 := by have := HC.out; omega
  have hC0 : 1 ≤ C := by have := HC.out; omega
  have hpI : (q : Int) * (C : Int) = (m : Int) := by rw [← hm]; simp
  have hpI2 : ((q : Int) + 1) * (C : Int) = (m : Int) + (C : Int) := by rw [Int.add_mul, hpI]; omega
  have ht2 : ((m : Int) + (C : Int)).toNat = m + C := by omega
  have hm0 : (m : Int) + (C : Int) ≤ (gc : Int) := by omega
  have hm4 : m ≤ 4000 := by omega
  have hq4 : q ≤ 40000 := by omega
  obtain ⟨p3, hp3⟩ : ∃ p, q % 3 = p := ⟨_, rfl⟩
  have hq3 : (q : Int) % 3 = (p3 : Int) := by omega
  have hp32 : p3 ≤ 2 := by omega
  have HP3 := Lib.hid hp3
  clear hp3
  have HPart : Hid (∀ W, Below w9.heap.size w9 W → Rd W (some ⟨gb, off + m, none⟩) C (gRow gs C q)) := fun W hW => by
    have := rd_part2 (K9.out.s3.below hW) hfit
    rw [← hm] at this ⊢
    exact this
  have HPl : Hid ((gRow gs C q).length = C) := (HPart.out w9 (Below.refl _ _)).1
  have HM := Lib.hid hm
  obtain ⟨part, hpart⟩ : ∃ part, gRow gs C q = part := ⟨_, rfl⟩
  have HGr := Lib.hid hpart
  rw [hpart] at HPart HPl
  have HOne : Hid (∀ u ∈ part.map (Value.int .i64), u.oneCell' = true) := one_ints part
  have HLm : Hid ((part.map (Value.int .i64)).length = C * 1) := by unfold Hid; rw [List.length_map, HPl.out, Nat.mul_one]
  have HNews : Hid (∀ j u, (part.map (Value.int .i64))[j]? = some u → (w9.alloc (.cells #[] 2)).cell? ((⟨gb, off + m, none⟩ : Addr).add j) = some u) := rd_newsG (HPart.out _ ((Below.refl _ _).alloc (Nat.le_refl _) _))
  obtain ⟨news, hnews⟩ : ∃ l, part.map (Value.int .i64) = l := ⟨_, rfl⟩
  rw [hnews] at HOne HLm HNews
  have HNw := Lib.hid hnews
  have HE9 : Hid ((w9.alloc (.cells #[] 2)).ownsRow w9.heap.size 2 1 (.slice (some ⟨w9.heap.size, 0, none⟩) 0 0) 0 []) := World.ownsRow_lit (base := w9.heap.size) (e := 2) (size := 1) w9 #[] 0 (Nat.le_refl _) (by unfold maxLen; omega) (by simp)
  clear hm hpart hnews
  obtain ⟨q_, q0, q1, q2⟩ := K9.out.gr
  go_wp2_with (at_builtin; refine wpList_append_own _ rfl _ _ 24 rfl w9.heap.size 2 i0 _ 1 8 Try.underlying24 hi hiz hi1 hi2 rfl (by decide) _ _ _ rfl HE9.out ⟨gb, off + m, none⟩ C _ news rfl HLm.out HNews.out HOne.out (by unfold maxLen; omega) (by omega) (by first | omega | (simp; done) | (simp; omega)) ?_; intro v10 w10 hown10 hgrow10 _; have HO10 : Hid (w10.ownsRow w9.heap.size 2 1 v10 C (part.map (Value.int .i64))) := (by have h := hown10; rw [Nat.zero_add, List.nil_append, ← HNw.out] at h; exact h); have hb10 : Below w9.heap.size w9 w10 := (((Below.refl _ _).alloc (Nat.le_refl _) _).grown hgrow10 (by simp) (fun j e => Nat.le_of_eq (Option.some.inj e))); clear hown10 hgrow10)
  obtain ⟨ra, rc, rfl⟩ := ownN_shape HO10.out
  have X10 := Lib.hid (X9.out.below hb10)
  have U10 := Lib.hid (U9.out.below hb10)
  have K10 := Lib.hid (K9.out.below hb10)
  have hz10 := hb10.size
  clear hb10 K9 X9 U9 q_ q0 q1 q2
  have HAll : Hid (part.all (fun x => inB x (-1) 1) = true) := by
    unfold Hid
    rw [List.all_eq_true]
    intro x hx
    rw [← HGr.out] at hx
    have := HBd.out x (row_mem hx)
    exact inB_yes (by omega) (by omega)
  (try go_wp2_with fail)
  refine (iRR_gen ra C rc part (p3 : Int) _ (own_rd HO10.out) (by omega) (own_capsE HO10.out).1 (own_capsE HO10.out).2 HAll.out (row_lim HC.out co8) (inB_yes (by omega) (by omega))).mono ?_
  rintro e w11 ⟨da, dc, rfl, hoB, hbB, -⟩
  have HVe : Hid (rowF part (p3 : Int) ((C - 15) / 11) = gVal gs C q) := by unfold Hid gVal; rw [HGr.out, HP3.out]
  rw [HVe.out] at hoB ⊢
  have HVl : Hid ((gVal gs C q).length = co + 2) := by unfold Hid; rw [gVal_len]; have := HC.out; omega
  rw [HVl.out] at hoB ⊢
  obtain ⟨V, hV⟩ : ∃ V, gVal gs C q = V := ⟨_, rfl⟩
  have HV := Lib.hid hV
  rw [hV] at hoB
  have D11 : Hid (Rd w11 da (co + 2) V) := own_rd hoB
  have X11 := Lib.hid (X10.out.below hbB)
  have U11 := Lib.hid (U10.out.below hbB)
  have K11 := Lib.hid (K10.out.below hbB)
  have hz11 := hbB.size
  clear hV hoB hbB K10 X10 U10 HO10
  have c6 : w11.cell? ⟨b, 6, none⟩ = some (.int .i64 (co : Int)) := by rw [← HCo.out]; exact K11.out.f8.2.2.2.2.2.2.1
  have hcw : ((co + 2 : Nat) : Int) = (co : Int) + 2 := by omega
  have tl : (((co : Int) + 2) != ((co : Int) + 2)) = false := by simp
  go_wp2_with fail
  obtain ⟨db, doff, rfl, hdb, hdc⟩ := D11.out.2 (by omega)
  have HDc := Lib.hid hdc
  have hXl : X.length = R * co := by rw [HXe.out, flatP_len]; have := HC.out; rw [show (C - 15) / 11 - 2 = co by omega]
  have HXl := Lib.hid hXl
  have hR2 : q * co + co ≤ X.length := by rw [hXl]; exact row_fits hqR
  obtain ⟨xb, xoff, rfl, hxb, hxc⟩ := X11.out.2 (by omega)
  have HXc := Lib.hid hxc
  obtain ⟨m2, hm2⟩ : ∃ m, q * co = m := ⟨_, rfl⟩
  rw [hm2] at hR2
  have HM2 := Lib.hid hm2
  have hpJ : (q : Int) * (co : Int) = (m2 : Int) := by rw [← hm2]; simp
  clear hm2 hxc hdc hXl
  go_loopw [18] (fun i wr => ∃ k : Nat, k ≤ co ∧ i = .int .i64 (k : Int) ∧ Hid (Below w11.heap.size w11 wr)) (fun i _ => co - (intOf i).toNat)
  case atStart => exact ⟨0, Nat.zero_le _, rfl, Below.refl _ _⟩
  case round =>
    obtain ⟨k, hk, rfl, HBr⟩ := hrel
    have c6r : wr.cell? ⟨b, 6, none⟩ = some (.int .i64 (co : Int)) := (HBr.out.cell (p := ⟨b, 6, none⟩) K11.out.fa.1).trans c6
    have hUr := Lib.hid (U11.out.below HBr.out)
    by_cases hlt : k < co
    · have hdv := (HBr.out.cell (p := ⟨db, doff + (k + 1), none⟩) hdb).trans (HDc.out (k + 1) (by omega))
      obtain ⟨v, hv⟩ : ∃ v, V.getD (k + 1) 0 = v := ⟨_, rfl⟩
      rw [hv] at hdv
      have hxv := (HBr.out.cell (p := ⟨xb, xoff + (m2 + k), none⟩) hxb).trans (HXc.out (m2 + k) (by omega))
      have HF : Hid (X.getD (m2 + k) 0 = v) := by
        unfold Hid
        rw [HXe.out, ← HM2.out, flat_getE (co := co) (by have := HC.out; omega) hqR hlt, HV.out, hv]
      rw [elV_get (by omega), HF.out] at hxv
      have k0 : (0 : Int) ≤ (k : Int) := Int.natCast_nonneg _
      have k1 : (k : Int) < (co : Int) := by omega
      have hj1 : (0 : Int) ≤ (k : Int) + 1 := by omega
      have hjt : ((k : Int) + 1).toNat = k + 1 := by omega
      have hjn : (k : Int) + 1 < (co : Int) + 2 := by omega
      have hjn2 : (k : Int) + 1 < ((co + 2 : Nat) : Int) := by omega
      have hs0 : (0 : Int) ≤ (m2 : Int) + (k : Int) := by omega
      have hst : ((m2 : Int) + (k : Int)).toNat = m2 + k := by omega
      have hsn : (m2 : Int) + (k : Int) < (X.length : Int) := by omega
      clear hv
      by_cases hneg' : v < 0
      · have hcl : ∀ N, Calls Try.prog 28 #[.slice ua (negs X).length uc, .int .i64 ((m2 : Int) + (k : Int))] (wr.drewN N) fun e w' => e = .returned (.bool true) ∧ w' = wr.drewN N := fun N => by
          have h := lHasQ ua (negs X).length uc (negs X) ((m2 : Int) + (k : Int)) (wr.drewN N) (hUr.out.below (below_drewN (Below.refl _ _) N)) (by omega)
          rw [show decide ((m2 : Int) + (k : Int) ∈ negs X) = true from decide_eq_true (by
            have := (negs_mem (X := X) (i := m2 + k) (by omega)).2 (by rw [HF.out]; exact hneg')
            rwa [show ((m2 + k : Nat) : Int) = (m2 : Int) + (k : Int) by omega] at this)] at h
          exact h.mono fun e w' h => ⟨h.1, h.2.symm⟩
        have hg0 : ¬ (0 ≤ v) := by omega
        have tg : decide ((0 : Int) ≤ v) = false := by simp; omega
        go_wp2_with fail
        go_quiet ((go_at_call 28; exact Calls.quiet_of_same (hcl _)))
        go_wp2_with fail
        go_roundw
        case rel => exact ⟨k + 1, by omega, by go_num, below_drewN HBr.out _⟩
        case measure => simp [intOf]; omega
      · have hp0 : pos0 v = v := by unfold pos0; rw [if_neg hneg']
        rw [hp0] at hxv
        have hcl : ∀ N, Calls Try.prog 28 #[.slice ua (negs X).length uc, .int .i64 ((m2 : Int) + (k : Int))] (wr.drewN N) fun e w' => e = .returned (.bool false) ∧ w' = wr.drewN N := fun N => by
          have h := lHasQ ua (negs X).length uc (negs X) ((m2 : Int) + (k : Int)) (wr.drewN N) (hUr.out.below (below_drewN (Below.refl _ _) N)) (by omega)
          rw [show decide ((m2 : Int) + (k : Int) ∈ negs X) = false from decide_eq_false (fun hm => hneg' (by
            rw [← HF.out]
            exact (negs_mem (X := X) (i := m2 + k) (by omega)).1 (by rwa [show ((m2 + k : Nat) : Int) = (m2 : Int) + (k : Int) by omega])))] at h
          exact h.mono fun e w' h => ⟨h.1, h.2.symm⟩
        have hg0 : 0 ≤ v := by omega
        have tg : decide ((0 : Int) ≤ v) = true := by simp; omega
        have tv : (v != v) = false := by simp
        have tn0 : decide (v < 0) = false := by simp; omega
        go_wp2_with fail
        go_quiet ((go_at_call 28; exact Calls.quiet_of_same (hcl _)))
        go_wp2_with fail
        go_roundw
        case rel => exact ⟨k + 1, by omega, by go_num, below_drewN HBr.out _⟩
        case measure => simp [intOf]; omega
    · have hke : (co : Int) ≤ (k : Int) := by omega
      go_wp2_with fail
      go_returns
      exact ⟨rfl, K11.out.bl.trans (HBr.out.mono K11.out.bl.size)⟩
end Go.Proofs.Ytenelpollcabnaa
