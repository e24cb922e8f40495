/-
  DERIVED. BurstBound: impl.
-/
import Derived.Test.YtdpifddmhbeklaaBurN
import Derived.Test.YtdpifddmhbeklaaStrZ
namespace Go.Proofs.Ytdpifddmhbeklaa
open Go.RowKit Go.Shelf
set_option linter.unusedVariables false
def bkV (L : List (Int × Int)) : List Value := L.map fun x => .int .i64 x.1
theorem bkV_get {L : List (Int × Int)} {i : Nat} (hi : i < L.length) : (bkV L)[i]? = some (.int .i64 (fst' L i)) := by
  simp [bkV, fst', List.getD_eq_getElem?_getD, List.getElem?_eq_getElem hi]
theorem cnt_vals (f : Nat → Int) (s : Nat) : vals (cntL f s 0) = #[.int .i64 0, .int .i64 0, .int .i64 0, .int .i64 0, .int .i64 0, .int .i64 0, .int .i64 0, .int .i64 0, .int .i64 0, .int .i64 0, .int .i64 0, .int .i64 0, .int .i64 0, .int .i64 0, .int .i64 0, .int .i64 0] := by rw [cntL_zero]; rfl
theorem blk_own6 (B b : Nat) (t : TypeId) (cs : Array Value) : OwnFrom (β := List (Int × Int)) B (fun _ W => Blk W b t cs) := fun _ X Y row h hg hr => by
  refine (hg.block b h.lt (fun e => ?_)).trans h
  obtain ⟨_, o, ho, hc⟩ := hr b e.symm
  rw [show X.heap[b]? = _ from h] at ho
  cases ho
  cases hc
theorem blk_not_row {W : World} {B : Nat} {t e : TypeId} {cs : Array Value} (h : Blk W B t cs) (hte : t ≠ e) {base size k : Nat} {v : Value} {xs : List Value} (hr : W.ownsRow base e size v k xs) : some B ≠ v.ownBlock := by
  rcases hr.2 with ⟨rfl, _⟩ | ⟨g, cap, cur, rfl, _, hgb, _⟩
  · simp [Value.ownBlock]
  · intro e'
    obtain rfl : B = g := by simpa [Value.ownBlock] using e'
    have := (show W.heap[B]? = _ from h).symm.trans hgb
    simp at this
    exact hte this.2
attribute [local go_sem] Oper.semAt_some
set_option maxRecDepth 100000 in
set_option maxHeartbeats 16000000 in
theorem iBurst (p pw po d chk c : Int) (C K : Nat) (w : World) (h : layB p pw po d chk c = true) (hC : c = (C : Int)) (hK : chk = (K : Int)) :
    Calls Try.prog 20 #[.agg #[.int .i64 p, .int .i64 pw, .int .i64 po, .int .i64 d, .int .i64 chk, .int .i64 c]] w (BurR w (fst' (ordL d c C K)) (chk / 2) (ordL d c C K).length) := by
  obtain ⟨c1, c16, c2, d2, k1, k2, -⟩ := layB_true h
  obtain ⟨n, hn⟩ : ∃ n, (ordL d c C K).length = n := ⟨_, rfl⟩
  have HF : Hid (∀ i, i < n → 0 ≤ fst' (ordL d c C K) i ∧ fst' (ordL d c C K) i < 16) := fun i hi => fst_bd hC c1 c16 c2 d2 (by rw [hn]; exact hi)
  have HT := Lib.hid (fun W => iTotalN p pw po d chk c C K n W h hC hK hn)
  have HOI := Lib.hid (fun N hN l Bs n₀ => iOrd1 N hN l Bs n₀ p pw po d chk c C K c1 c16 c2 d2 k1 k2 hC hK)
  have HN := Lib.hid hn
  have hn4 : n ≤ 40000 := by
    have := ord_len (K := K) hC c1 c2 d2
    rw [hn, ← hK] at this
    have q1 : c * chk ≤ 16 * chk := Int.mul_le_mul_of_nonneg_right c16 (by omega)
    omega
  have hmk : ∀ W : World, (Instr.makeSlice 36 (.int .i64 0) (.int .i64 (n : Int))).run Try.prog W = .ok (.slice (some ⟨W.heap.size, 0, none⟩) 0 n) (W.alloc (.cells (vals (List.replicate n 0)) 2)) := fun W => by
    obtain ⟨i0, hi, hz0, hz1, hz2⟩ := info_parts infoInt
    have hb : (i0.bytes : Int) * (n : Int) ≤ 281474976710656 := by rw [hz2]; omega
    have hr := run_make (P := Try.prog) W 36 2 i0 (.int .i64 0) Try.underlying36 hi hz0 .i64 .i64 0 n (by omega) (by omega) hb (by omega)
    simp only [Int.toNat_natCast] at hr
    rw [show (0 : Int).toNat = 0 from rfl] at hr
    rw [hr, hz1]
    simp only [Value.cells, zeros_made]
  obtain ⟨i0, hi, hiz, hi1, hi2⟩ := info_parts infoInt
  rw [hn]
  obtain ⟨q, hq⟩ : ∃ q, chk / 2 = q := ⟨_, rfl⟩
  have q0 : 0 ≤ q := by omega
  have q64 : q ≤ 64 := by omega
  have hqt : Int.tdiv chk 2 = q := by rw [Int.tdiv_eq_ediv_of_nonneg (by omega)]; exact hq
  have hqw : IntKind.i64.wrap q = q := IntWalk.i64_in _ (by omega)
  rw [hq]
  have HL0 := Lib.hid (Lay6.new w 29 p pw po d chk c)
  generalize hL : ordL d c C K = L at HF HN HOI
  clear hC hK hn c1 c16 c2 d2 hq hL
  refine (callsIn_wide (n := 8)).1 ?_
  refine callsIn_of_wp_marks Try.func20 rfl trivial ?_ rfl
  simp only [Try.ntmps20, List.size_toArray, List.length_cons, List.length_nil, Nat.reduceAdd, Nat.reduceSub, Array.replicate_succ, Array.replicate_zero, List.push_toArray, List.append_toArray, List.nil_append, List.cons_append]
  gi_wp2_with (refine ⟨trivial, ?_⟩; gi_at_call 16; refine (callsIn_wide.2 (iIsLayout _ _ _ _ _ _ _)).mono ?_; rintro x0 w1 ⟨rfl, hb⟩; rw [h]; obtain ⟨hc, hf⟩ := bcell hb; have hz := hb.size; (try simp at hz); have hz0 : w.heap.size < w1.heap.size := (by omega))
  gi_wp2_with (refine ⟨trivial, ?_⟩; gi_at_call 60; refine (callsIn_wide.2 (HT.out _)).mono ?_; rintro x0 w2 ⟨rfl, hb2⟩; obtain ⟨hc2, hf2⟩ := bcell hb2; have hy := hb2.size; (try simp at hy); have hy0 : w.heap.size < w2.heap.size := (by omega))
  gi_wp2_with (refine ⟨trivial, ?_⟩; gi_at_call 65; refine (callsIn_wide.2 (iOrdMk _ _ _ _ _ _ _)).mono ?_; rintro x0 w' ⟨rfl, rfl⟩)
  clear hmk hc hf hc2 hf2
  obtain ⟨W0, hW0⟩ : ∃ W0 : World, ((w2.alloc (.cells (vals (List.replicate n 0)) 2)).alloc (.cells #[.slice (some ⟨w2.heap.size, 0, none⟩) 0 n] 36)).alloc (.cells #[.int .i64 p, .int .i64 pw, .int .i64 po, .int .i64 d, .int .i64 chk, .int .i64 c] 29) = W0 := ⟨_, rfl⟩
  have hsz : W0.heap.size = w2.heap.size + 1 + 1 + 1 := by rw [← hW0]; simp
  have bV : Boxed W0 (w2.heap.size + 1) 36 (.slice (some ⟨w2.heap.size, 0, none⟩) 0 n) := by
    rw [← hW0]
    have := (Boxed.new (w2.alloc (.cells (vals (List.replicate n 0)) 2)) 36 (.slice (some ⟨w2.heap.size, 0, none⟩) 0 n)).alloc (.cells #[.int .i64 p, .int .i64 pw, .int .i64 po, .int .i64 d, .int .i64 chk, .int .i64 c] 29)
    simpa only [World.size_alloc] using this
  have bL : Lay6 W0 (w2.heap.size + 1 + 1) p pw po d chk c := by
    rw [← hW0]
    have := Lay6.new ((w2.alloc (.cells (vals (List.replicate n 0)) 2)).alloc (.cells #[.slice (some ⟨w2.heap.size, 0, none⟩) 0 n] 36)) 29 p pw po d chk c
    simpa using this
  have bK : Blk W0 (w2.heap.size + 1 + 1) 29 #[.int .i64 p, .int .i64 pw, .int .i64 po, .int .i64 d, .int .i64 chk, .int .i64 c] := by
    rw [← hW0]
    have := Blk.new ((w2.alloc (.cells (vals (List.replicate n 0)) 2)).alloc (.cells #[.slice (some ⟨w2.heap.size, 0, none⟩) 0 n] 36)) 29 #[.int .i64 p, .int .i64 pw, .int .i64 po, .int .i64 d, .int .i64 chk, .int .i64 c]
    simpa only [World.size_alloc] using this
  have bR : W0.ownsRow (w.heap.size + 1) 2 1 (.slice (some ⟨w2.heap.size, 0, none⟩) 0 n) 0 [] := by
    rw [← hW0]
    exact ((World.ownsRow_made (base := w.heap.size + 1) (e := 2) (size := 1) w2 (vals (List.replicate n 0)) n (by omega) (by unfold maxLen; omega) (by simp [vals_size])).alloc _).alloc _
  have hB0 : Below (w.heap.size + 1) (w.alloc (.cells #[.int .i64 p, .int .i64 pw, .int .i64 po, .int .i64 d, .int .i64 chk, .int .i64 c] 29)) W0 := by
    rw [← hW0]
    repeat' (first | (with_reducible exact Below.refl _ _) | (with_reducible assumption) | (with_reducible refine Below.alloc ?_ ?_ _) | (with_reducible refine Below.setCell ?_ ?_ _) | (with_reducible refine Below.drew ?_) | (with_reducible refine below_drewN ?_ _) | (with_reducible refine below_via (by with_reducible assumption) ?_ ?_) | go_size)
  rw [hW0]
  clear hW0 hb hb2
  have h8 : 1 ≤ 8 := by omega
  have hseq : SeqStopsK Fence.wide (8 - 1) Try.prog 105 #[.pointer (some ⟨w2.heap.size + 1 + 1, 0, none⟩)] (fun x : Int × Int => #[Value.int .i64 x.1, .int .i64 x.2]) (KpL (w.heap.size + 1) (w2.heap.size + 1 + 1)) (fun ys => ys = L) (fun pre => pre <+: L) 40000 W0 := by
    intro l J Jx W hW hJ _ hY h0
    refine HOI.out (8 - 1) (by omega) l (w2.heap.size + 1 + 1) (w.heap.size + 1) J Jx (fun pre W W' hj hb => hJ pre W W' none hj (only_of_below hb none) (fun r e => by cases e)) hY W ?_ (by have := hW.size; omega) h0
    exact bL.below hW (by omega)
  refine wpIn_rangeFunc_ownH rfl h8 (gf := 105) (lb := #[.pointer (some ⟨w2.heap.size + 1 + 1, 0, none⟩)]) rfl trivial (enters_of Try.func105 (by kernel_rfl) rfl)
    hseq KpL.trans (kpL_b (by omega) (by omega)) (Below.refl _ _) (fun _ => rfl)
    (fun pre W => ((∃ v, Boxed W (w2.heap.size + 1) 36 v ∧ W.ownsRow (w.heap.size + 1) 2 1 v pre.length (bkV pre) ∧ True) ∧ Blk W (w2.heap.size + 1 + 1) 29 #[.int .i64 p, .int .i64 pw, .int .i64 po, .int .i64 d, .int .i64 chk, .int .i64 c]) ∧ Below (w.heap.size + 1) (w.alloc (.cells #[.int .i64 p, .int .i64 pw, .int .i64 po, .int .i64 d, .int .i64 chk, .int .i64 c] 29)) W)
    (fun _ _ _ => False)
    (OwnFrom.and (OwnFrom.and (Own.from (holdsRow_own (w.heap.size + 1) (w2.heap.size + 1) 36 2 1 (fun pre : List (Int × Int) => pre.length) bkV (fun _ _ => True)) _) (blk_own6 _ _ _ _)) (ownFrom_below (by simp) (by omega)))
    (fun _ _ _ _ _ hs _ _ => hs)
    ⟨⟨⟨_, bV, bR, trivial⟩, bK⟩, hB0⟩
    (fun x a' _ => a' = { tmps := #[.agg #[.int .i64 p, .int .i64 pw, .int .i64 po, .int .i64 d, .int .i64 chk, .int .i64 c], .pointer (some ⟨w.heap.size, 0, none⟩), .int .i64 0, .int .i64 0, .pointer (some ⟨w2.heap.size + 1, 0, none⟩), .int .i64 x.1, undef, undef, undef, undef, .agg #[.int .i64 p, .int .i64 pw, .int .i64 po, .int .i64 d, .int .i64 chk, .int .i64 c], .bool true, .bool false, .agg #[.int .i64 p, .int .i64 pw, .int .i64 po, .int .i64 d, .int .i64 chk, .int .i64 c], .int .i64 (n : Int), .slice (some ⟨w2.heap.size, 0, none⟩) 0 n, .agg #[.int .i64 p, .int .i64 pw, .int .i64 po, .int .i64 d, .int .i64 chk, .int .i64 c], .func (.func 105) #[] #[.pointer (some ⟨w2.heap.size + 1 + 1, 0, none⟩)], .int .i64 x.1, .int .i64 x.2, undef, undef, undef, undef, undef, undef, undef, undef, undef, undef, undef, undef, undef, undef, undef, undef, undef, undef, undef, undef, undef, undef, undef, undef, undef, undef, undef, undef, undef, undef, undef, undef, undef, undef, undef, undef, undef, undef, undef, undef, undef, undef, undef, undef, undef, undef, undef, undef, undef, undef, undef, undef, undef, undef, undef, undef, undef, undef, undef, undef, undef], defers := [] })
    (fun _ _ _ _ _ _ hs _ _ => hs)
    ?assign ?body ?done ?stop
  case assign =>
    rintro l pre x W Kc hI hKc
    gi_wp2
    exact hKc _ _ (KeepsFrom.refl _ _) (KpL.refl _ _ _) hI rfl
  case body =>
    rintro l pre x a' W hl ⟨r, hr⟩ ⟨⟨⟨v, hv, hrow, _⟩, hLy⟩, hBel⟩ rfl hlt
    have hc := hv.cell
    have hsW := hBel.size
    simp at hsW
    gi_wp2_with (gi_at_builtin; refine wpListIn_append_own _ rfl _ _ 36 rfl (w.heap.size + 1) 2 i0 _ 1 8 Try.underlying36 hi hiz hi1 hi2 rfl (by decide) _ _ _ rfl (hrow.alloc _) ⟨W.heap.size, 0, none⟩ 1 1 [.int .i64 x.1] rfl rfl (World.news_of_block (heap_alloc_new W _)) (by simp [Value.oneCell']) (by unfold maxLen; omega) (by omega) (by simp; omega) ?_; intro v' w5 hown' hgrow _; obtain ⟨g', cap', rfl⟩ := ownsRow_succ hown'; obtain ⟨hv1, hv2, hr2, hk2, hb2⟩ := hv.appended (by decide) hrow hsW (by omega) hown' hgrow; have hc1 := hv1.cell; have hf1 := hv1.frozen; have hL5 := (show Blk w5 (w2.heap.size + 1 + 1) 29 #[.int .i64 p, .int .i64 pw, .int .i64 po, .int .i64 d, .int .i64 chk, .int .i64 c] from (hgrow.block _ (hLy.alloc _).lt (blk_not_row hLy (by decide) hrow)).trans (hLy.alloc _)).far (p := ⟨w2.heap.size + 1, 0, none⟩) (by simp) (.slice (some ⟨g', 0, none⟩) (pre.length + 1) cap'))
    exact ⟨hk2.from _, ⟨hb2, hL5.trans hLy.symm⟩, ⟨⟨⟨_, hv2, by rw [List.length_append]; simpa [bkV] using hr2, trivial⟩, hL5⟩, hBel.trans hb2⟩⟩
  case stop =>
    rintro D cd pre W _ _ hx _
    exact hx.elim
  case done =>
    rintro D ys W hD rfl ⟨⟨⟨v, hv, hrow, _⟩, -⟩, hBel⟩ hK
    obtain ⟨hl0, a0, a1, a2, a3, a4, a5⟩ := HL0.out.below hBel (by omega)
    have hsW := hBel.size
    simp at hsW
    have hDlt : D < W.heap.size := (Array.getElem?_eq_some_iff.1 hK).1
    rw [HN.out] at hrow
    obtain ⟨av, cv, rfl⟩ := ownN_shape hrow
    have HV := Lib.hid hv
    have HR := Lib.hid hrow
    clear hv hrow
    gi_wp2_with (refine ⟨trivial, ?_⟩; gi_at_call 60; refine (callsIn_wide.2 (HT.out _)).mono ?_; rintro x0 w3 ⟨rfl, hb3⟩; obtain ⟨hc3, hf3⟩ := bcell hb3; have hz3 := hb3.size; have hw2 : w2.heap.size + 1 < w3.heap.size := (by omega); have hw1 : w.heap.size < w3.heap.size := (by omega); have cv3 := Boxed.cell ((hb3.block _ HV.out.lt).trans HV.out))
    obtain ⟨Wq, hWq⟩ : ∃ Wq : World, w3.alloc (.cells #[.int .i64 0, .int .i64 0, .int .i64 0, .int .i64 0, .int .i64 0, .int .i64 0, .int .i64 0, .int .i64 0, .int .i64 0, .int .i64 0, .int .i64 0, .int .i64 0, .int .i64 0, .int .i64 0, .int .i64 0, .int .i64 0] 92) = Wq := ⟨_, rfl⟩
    have HQ0 : Hid (Blk Wq w3.heap.size 92 (vals (cntL (fst' ys) 0 0))) := by rw [← hWq, cnt_vals]; exact Blk.new _ _ _
    have HB4 : Hid (Below w3.heap.size w3 Wq) := by rw [← hWq]; unfold Hid; repeat' (first | (with_reducible exact Below.refl _ _) | (with_reducible assumption) | (with_reducible refine Below.alloc ?_ ?_ _) | (with_reducible refine Below.setCell ?_ ?_ _) | (with_reducible refine Below.drew ?_) | (with_reducible refine below_drewN ?_ _) | (with_reducible refine below_via (by with_reducible assumption) ?_ ?_) | go_size)
    rw [hWq]
    clear hWq
    have HV3 : Hid (∀ wr, Below w3.heap.size w3 wr → Boxed wr (w2.heap.size + 1) 36 (.slice av n cv)) := fun wr hb => (hb.block _ hw2).trans ((hb3.block _ HV.out.lt).trans HV.out)
    have HR3 : Hid (∀ wr, Below w3.heap.size w3 wr → wr.ownsRow (w.heap.size + 1) 2 1 (.slice av n cv) n (bkV ys)) := fun wr hb => ownN_below (ownN_below HR.out hb3) hb
    have HL3 : Hid (∀ wr, Below w3.heap.size w3 wr → Lay6 wr w.heap.size p pw po d chk c) := fun wr hb => (Lay6.below ⟨hl0, a0, a1, a2, a3, a4, a5⟩ hb3 hl0).below hb (by omega)
    have HK3 : Hid (∀ wr, Below w3.heap.size w3 wr → wr.heap[D]? = some (.deferred (some []))) := fun wr hb => (hb.block D (by omega)).trans ((hb3.block D hDlt).trans hK)
    have HE3 : Hid (∀ wr, Below w3.heap.size w3 wr → Below w.heap.size w wr) := fun wr hb => ((((Below.refl _ _).alloc (Nat.le_refl _) _).trans (hBel.mono (by omega))).trans (hb3.mono (by omega))).trans (hb.mono (by omega))
    clear hK hBel hb3 hc3 hf3 cv3 a0 a1 a2 a3 a4 a5
    gi_loopw [6, 8, 28] (fun bv ev sv wr => ∃ B E s : Nat, s ≤ n ∧ sv = .int .i64 s ∧ ev = .int .i64 E ∧ bv = .int .i64 B ∧ Hid (Slide (fst' ys) q n s E B) ∧ Hid (Blk wr w3.heap.size 92 (vals (cntL (fst' ys) s (E - s)))) ∧ Hid (Below w3.heap.size w3 wr)) (fun _ _ i _ => n - (intOf i).toNat)
    case atStart => exact ⟨n, 0, 0, Nat.zero_le _, rfl, rfl, rfl, Slide.start q0, HQ0.out, HB4.out⟩
    case round =>
      clear HQ0 HB4
      obtain ⟨B, E, s, hs, rfl, rfl, rfl, HSl, HQ, HB⟩ := hrel
      by_cases hsn : s < n
      · have hsI : (s : Int) < (n : Int) := by omega
        obtain ⟨wo, hwo⟩ : ∃ wo : World, wo = wr := ⟨_, rfl⟩
        subst hwo
        gi_wp2
        gi_loopw [8] (fun ev wr => ∃ E : Nat, ev = .int .i64 E ∧ Hid (Slide (fst' ys) q n s E B) ∧ Hid (Blk wr w3.heap.size 92 (vals (cntL (fst' ys) s (E - s)))) ∧ Hid (Below w3.heap.size w3 wr)) (fun i _ => n - (intOf i).toNat)
        case atStart => exact ⟨E, rfl, HSl.out, HQ.out, HB.out⟩
        case round =>
          clear HSl HQ HB
          obtain ⟨E, rfl, HSl, HQ, HB⟩ := hrel
          have cB := (HV3.out wr HB.out).cell
          obtain ⟨hsE, hEn', hBn, -⟩ := HSl.out
          by_cases hEn : E < n
          · have hEI : (E : Int) < (n : Int) := by omega
            have hE0 : (0 : Int) ≤ (E : Int) := by omega
            obtain ⟨g, hg⟩ : ∃ g, av = some ⟨g, 0, none⟩ := by
              obtain ⟨g, cap, hv, _⟩ := (HR3.out wr HB.out).form (by omega)
              injection hv with hv1
              exact ⟨g, hv1⟩
            subst hg
            obtain ⟨v, hv⟩ : ∃ v : Nat, fst' ys E = (v : Int) := ⟨(fst' ys E).toNat, by have := (HF.out E hEn).1; omega⟩
            have hv16 : v < 16 := by have := (HF.out E hEn).2; omega
            have HVV := Lib.hid hv
            have cR : wr.cell? ⟨g, E, none⟩ = some (.int .i64 (v : Int)) := by rw [(HR3.out wr HB.out).cellAt E (by omega), bkV_get (by rw [HN.out]; exact hEn), hv]
            have cC : wr.cell? ⟨w3.heap.size, v, none⟩ = some (.int .i64 (wcnt (fst' ys) (v : Int) s (E - s) : Int)) := by
              rw [HQ.out.cell, vals_get _ _ (by rw [cntL_len]; exact hv16), cntL_get _ _ _ _ hv16]
            have fC : wr.frozen? ⟨w3.heap.size, v, none⟩ = false := HQ.out.frozen v
            have a4 := (HL3.out wr HB.out).2.2.2.2.2.1
            have hxn := wcnt_le (fst' ys) (v : Int) s (E - s)
            have HX : Hid (wcnt (fst' ys) (fst' ys E) s (E - s) = wcnt (fst' ys) (v : Int) s (E - s)) := by rw [hv]; rfl
            have hv0 : (0 : Int) ≤ (v : Int) := by omega
            have hv1 : (v : Int) < 16 := by omega
            have dE : decide ((E : Int) < (n : Int)) = true := decide_eq_true hEI
            by_cases hxq : (wcnt (fst' ys) (v : Int) s (E - s) : Int) < q
            · have HS2 : Hid (Slide (fst' ys) q n s (E + 1) B) := HSl.out.grow hEn (by rw [HX.out]; exact hxq)
              have HQ2 : Hid (∀ W', Blk W' w3.heap.size 92 (vals (cntL (fst' ys) s (E - s))) → Blk (W'.setCell ⟨w3.heap.size, v, none⟩ (.int .i64 ((wcnt (fst' ys) (v : Int) s (E - s) : Int) + 1))) w3.heap.size 92 (vals (cntL (fst' ys) s (E + 1 - s)))) := fun W' hb => by
                have := hb.set_ v (.int .i64 ((wcnt (fst' ys) (v : Int) s (E - s) : Int) + 1))
                rw [vals_set, cntL_grow hv16 (by rw [show s + (E - s) = E by omega]; exact HVV.out)] at this
                rw [show E + 1 - s = E - s + 1 by omega]
                exact this
              generalize wcnt (fst' ys) (v : Int) s (E - s) = x at cC hxn hxq HQ2
              have dx : decide ((x : Int) < q) = true := decide_eq_true hxq
              clear hv HX
              gi_wp2
              gi_quiet (fail)
              generalize hwq : World.drewN wr _ = wq
              have HBq : Hid (Below w3.heap.size w3 wq) := by rw [← hwq]; exact below_drewN HB.out _
              have HQq : Hid (Blk wq w3.heap.size 92 (vals (cntL (fst' ys) s (E - s)))) := by rw [← hwq]; exact HQ.out.drewN _
              replace cB : wq.cell? ⟨w2.heap.size + 1, 0, none⟩ = some (.slice (some ⟨g, 0, none⟩) n cv) := by rw [← hwq]; exact cB
              replace cR : wq.cell? ⟨g, E, none⟩ = some (.int .i64 (v : Int)) := by rw [← hwq]; exact cR
              replace cC : wq.cell? ⟨w3.heap.size, v, none⟩ = some (.int .i64 (x : Int)) := by rw [← hwq]; exact cC
              replace fC : wq.frozen? ⟨w3.heap.size, v, none⟩ = false := HQq.out.frozen v
              clear hwq a4 HB HQ dE dx
              gi_wp2
              go_roundw
              case rel => exact ⟨E + 1, by go_num, HS2, HQ2.out _ HQq.out, HBq.out.setCell (Nat.le_refl _) _⟩
              case measure => simp [intOf]; omega
            · have dx : decide ((wcnt (fst' ys) (v : Int) s (E - s) : Int) < q) = false := decide_eq_false hxq
              have HNx : Hid (∀ E', (E = s ∧ E' = E + 1) ∨ (s < E ∧ E' = E) → Slide (fst' ys) q n (s + 1) E' (min B (E - s))) := fun E' hE' => HSl.out.next q0 hEn (by rw [HX.out]; omega) E' hE'
              have dn : ((E : Int) == (n : Int)) = false := by simp; omega
              obtain ⟨M, hM⟩ : ∃ M : Nat, min B (E - s) = M := ⟨_, rfl⟩
              rw [hM] at HNx
              have MI : Hid ((if (E : Int) - (s : Int) < (B : Int) then (E : Int) - (s : Int) else (B : Int)) = (M : Int)) := by unfold Hid; split <;> omega
              have HBq0 := HB
              clear hM hxq
              by_cases hEs : E = s
              · have ds : ((E : Int) == (s : Int)) = true := by simp; omega
                have HS2 : Hid (Slide (fst' ys) q n (s + 1) (E + 1) M) := HNx.out _ (.inl ⟨hEs, rfl⟩)
                have HQ2 : Hid (Blk wr w3.heap.size 92 (vals (cntL (fst' ys) (s + 1) (E + 1 - (s + 1))))) := by
                  have := HQ.out
                  rw [show E - s = 0 by omega, cntL_zero] at this
                  rw [show E + 1 - (s + 1) = 0 by omega, cntL_zero]
                  exact this
                generalize wcnt (fst' ys) (v : Int) s (E - s) = x at cC hxn dx
                have hEsI : (E : Int) ≤ (s : Int) := by omega
                clear hv HX hEs
                gi_wp2
                gi_quiet (fail)
                generalize hwq : World.drewN wr _ = wq
                have HBq : Hid (Below w3.heap.size w3 wq) := by rw [← hwq]; exact below_drewN HB.out _
                have HQq : Hid (Blk wq w3.heap.size 92 (vals (cntL (fst' ys) (s + 1) (E + 1 - (s + 1))))) := by rw [← hwq]; exact HQ2.out.drewN _
                replace cB : wq.cell? ⟨w2.heap.size + 1, 0, none⟩ = some (.slice (some ⟨g, 0, none⟩) n cv) := by rw [← hwq]; exact cB
                clear hwq a4 HB HQ HQ2 dE dx cR cC fC HBq0
                gi_wp2
                go_roundw
                case rel => exact ⟨M, E + 1, s + 1, by omega, by go_num, by go_num, by rw [MI.out], HS2, HQq, HBq⟩
                case measure => simp [intOf]; omega
              · have ds : ((E : Int) == (s : Int)) = false := by simp; omega
                have HS2 : Hid (Slide (fst' ys) q n (s + 1) E M) := HNx.out _ (.inr ⟨by omega, rfl⟩)
                obtain ⟨u, hu⟩ : ∃ u : Nat, fst' ys s = (u : Int) := ⟨(fst' ys s).toNat, by have := (HF.out s hsn).1; omega⟩
                have hu16 : u < 16 := by have := (HF.out s hsn).2; omega
                have HUU := Lib.hid hu
                have hu0 : (0 : Int) ≤ (u : Int) := by omega
                have hu1 : (u : Int) < 16 := by omega
                have HQ2 : Hid (∀ W', Blk W' w3.heap.size 92 (vals (cntL (fst' ys) s (E - s))) → Blk (W'.setCell ⟨w3.heap.size, u, none⟩ (.int .i64 ((wcnt (fst' ys) (u : Int) s (E - s) : Int) - 1))) w3.heap.size 92 (vals (cntL (fst' ys) (s + 1) (E - (s + 1))))) := fun W' hb => by
                  have := hb.set_ u (.int .i64 ((wcnt (fst' ys) (u : Int) s (E - s) : Int) - 1))
                  obtain ⟨k, hk⟩ : ∃ k, E - s = k + 1 := ⟨E - s - 1, by omega⟩
                  rw [hk] at this ⊢
                  rw [vals_set, cntL_drop hu16 HUU.out] at this
                  rw [show E - (s + 1) = k by omega]
                  exact this
                have cS : wr.cell? ⟨g, s, none⟩ = some (.int .i64 (u : Int)) := by rw [(HR3.out wr HB.out).cellAt s (by omega), bkV_get (by rw [HN.out]; exact hsn), hu]
                have cU : wr.cell? ⟨w3.heap.size, u, none⟩ = some (.int .i64 (wcnt (fst' ys) (u : Int) s (E - s) : Int)) := by
                  rw [HQ.out.cell, vals_get _ _ (by rw [cntL_len]; exact hu16), cntL_get _ _ _ _ hu16]
                have hun := wcnt_le (fst' ys) (u : Int) s (E - s)
                have HQ3 := HQ
                have hs0 : (0 : Int) ≤ (s : Int) := by omega
                have HXX : Hid (∃ x : Nat, wcnt (fst' ys) (v : Int) s (E - s) = x) := ⟨_, rfl⟩
                generalize wcnt (fst' ys) (u : Int) s (E - s) = y at cU hun HQ2
                generalize wcnt (fst' ys) (v : Int) s (E - s) = x at cC hxn dx
                clear hv HX hu hEs HXX
                gi_wp2
                gi_quiet (fail)
                generalize hwq : World.drewN wr _ = wq
                have HBq : Hid (Below w3.heap.size w3 wq) := by rw [← hwq]; exact below_drewN HB.out _
                have HQq : Hid (Blk wq w3.heap.size 92 (vals (cntL (fst' ys) s (E - s)))) := by rw [← hwq]; exact HQ.out.drewN _
                replace cB : wq.cell? ⟨w2.heap.size + 1, 0, none⟩ = some (.slice (some ⟨g, 0, none⟩) n cv) := by rw [← hwq]; exact cB
                replace cS : wq.cell? ⟨g, s, none⟩ = some (.int .i64 (u : Int)) := by rw [← hwq]; exact cS
                replace cU : wq.cell? ⟨w3.heap.size, u, none⟩ = some (.int .i64 (y : Int)) := by rw [← hwq]; exact cU
                have fU : wq.frozen? ⟨w3.heap.size, u, none⟩ = false := HQq.out.frozen u
                clear hwq a4 HB HQ HQ3 dE dx cR cC fC HBq0
                gi_wp2
                go_roundw
                case rel => exact ⟨M, E, s + 1, by omega, by go_num, rfl, by rw [MI.out], HS2, HQ2.out _ HQq.out, HBq.out.setCell (Nat.le_refl _) _⟩
                case measure => simp [intOf]; omega
          · have hEe : Hid (E = n) := (by omega : E = n)
            have dE : decide ((E : Int) < (n : Int)) = false := by simp; omega
            have dn : ((E : Int) == (n : Int)) = true := by simp; omega
            have HBn : Hid (Bnd (fst' ys) q n B) := by have := HSl.out; rw [hEe.out] at this; exact this.stop
            gi_wp2
            gi_quiet (fail)
            generalize hwq : World.drewN wr _ = wq
            have HBq : Hid (Below w3.heap.size w3 wq) := by rw [← hwq]; exact below_drewN HB.out _
            replace cB : wq.cell? ⟨w2.heap.size + 1, 0, none⟩ = some (.slice av n cv) := by rw [← hwq]; exact cB
            have hKw := Lib.hid (HK3.out _ HBq.out)
            have hEw := Lib.hid (HE3.out _ HBq.out)
            clear hwq HB HQ dE
            gi_wp2
            refine ⟨by simp, .inl ⟨_, _, rfl, run_takeDeferred hKw.out, ?_⟩⟩
            exact ⟨_, results_tmp2 rfl _ _ _, B, HBn.out, rfl, hEw.out.trans (belowK_b (w := w) (Nat.le_refl _) _ D _ _ (by omega) hKw.out rfl rfl)⟩
      · have hsI : (n : Int) ≤ (s : Int) := by omega
        have hse : Hid (s = n) := (by omega : s = n)
        have HBn : Hid (Bnd (fst' ys) q n B) := by have := HSl.out; rw [hse.out] at this; exact this.last q0
        have hKw := Lib.hid (HK3.out _ HB.out)
        have hEw := Lib.hid (HE3.out _ HB.out)
        gi_wp2
        refine ⟨by simp, .inl ⟨_, _, rfl, run_takeDeferred hKw.out, ?_⟩⟩
        exact ⟨_, results_tmp2 rfl _ _ _, B, HBn.out, rfl, hEw.out.trans (belowK_b (w := w) (Nat.le_refl _) _ D _ _ (by omega) hKw.out rfl rfl)⟩
end Go.Proofs.Ytdpifddmhbeklaa
