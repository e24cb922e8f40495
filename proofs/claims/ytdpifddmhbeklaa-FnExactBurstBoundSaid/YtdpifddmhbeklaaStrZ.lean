/-
  DERIVED. StreamIndex: impl, where the element is there.
-/
import Derived.Test.YtdpifddmhbeklaaStrY
namespace Go.Proofs.Ytdpifddmhbeklaa
open Go.RowKit Go.Shelf
set_option linter.unusedVariables false
attribute [local go_sem] Oper.semAt_some
set_option maxRecDepth 100000 in
set_option maxHeartbeats 4000000 in
theorem iOrdMk (p pw po d chk c : Int) (w : World) : Calls Try.prog 65 #[.agg #[.int .i64 p, .int .i64 pw, .int .i64 po, .int .i64 d, .int .i64 chk, .int .i64 c]] w fun e w' => e = .returned (.func (.func 105) #[] #[.pointer (some ⟨w.heap.size, 0, none⟩)]) ∧ w.alloc (.cells #[.int .i64 p, .int .i64 pw, .int .i64 po, .int .i64 d, .int .i64 chk, .int .i64 c] 29) = w' := by
  go_enter Try.func65, Try.ntmps65
  go_wp2
  go_returns
  exact ⟨rfl, rfl⟩
attribute [local go_sem] Oper.semAt_some
set_option maxRecDepth 100000 in
set_option maxHeartbeats 4000000 in
theorem iStrIn (p pw po d chk c b e : Int) (C K : Nat) (w : World) (h : layB p pw po d chk c = true) (h1 : inB b 0 (c - 1) = true) (h2 : inB e 0 (shareZ d c b + chk - 1) = true) (hC : c = (C : Int)) (hK : chk = (K : Int)) :
    Calls Try.prog 18 #[.agg #[.int .i64 p, .int .i64 pw, .int .i64 po, .int .i64 d, .int .i64 chk, .int .i64 c], .int .i64 b, .int .i64 e] w fun x w' => x = .returned (.tuple #[.int .i64 ((ordAt (b, e) (ordL d c C K) : Nat) : Int), .int .i64 0]) ∧ Below w.heap.size w w' := by
  obtain ⟨c1, c16, c2, d2, k1, k2, -⟩ := layB_true h
  obtain ⟨s1, s2⟩ := share_bd (k := b) c1 c2 d2
  have wc : IntKind.i64.wrap (c - 1) = c - 1 := IntWalk.i64_in _ (by omega)
  have ws : IntKind.i64.wrap (shareZ d c b + chk) = shareZ d c b + chk := IntWalk.i64_in _ (by omega)
  have ws1 : IntKind.i64.wrap (shareZ d c b + chk - 1) = shareZ d c b + chk - 1 := IntWalk.i64_in _ (by omega)
  have HMem : Hid ((b, e) ∈ ordL d c C K) := by
    obtain ⟨x1, x2⟩ := inB_iff.1 h1
    obtain ⟨x3, x4⟩ := inB_iff.1 h2
    exact (mem_ord' hC c1 c2 d2 b e).2 ⟨x1, by omega, x3, by omega⟩
  have HOI := Lib.hid (fun N hN l Bs n₀ => iOrd1 N hN l Bs n₀ p pw po d chk c C K c1 c16 c2 d2 k1 k2 hC hK)
  clear hC hK
  refine (callsIn_wide (n := 8)).1 ?_
  refine callsIn_of_wp_marks Try.func18 rfl trivial ?_ rfl
  simp only [Try.ntmps18, List.size_toArray, List.length_cons, List.length_nil, Nat.reduceAdd, Nat.reduceSub, Array.replicate_succ, Array.replicate_zero, List.push_toArray, List.append_toArray, List.nil_append, List.cons_append]
  gi_wp2_with (refine ⟨trivial, ?_⟩; gi_at_call 16; refine (callsIn_wide.2 (iIsLayout _ _ _ _ _ _ _)).mono ?_; rintro x0 w1 ⟨rfl, hb⟩; rw [h]; obtain ⟨hc, hf⟩ := bcell hb; have hz := hb.size; (try simp at hz); have hz0 : w.heap.size < w1.heap.size := (by omega); have hz1 : w.heap.size + 1 < w1.heap.size := (by omega); have hz2 : w.heap.size + 1 + 1 < w1.heap.size := (by omega))
  have HS := Lib.hid (held_si p pw po d chk c b e w)
  clear hc hf
  refine wpIn_wide.2 ?_
  go_region_held3 (fun w' => Below (w.heap.size + 3) (((w.alloc (.cells #[.int .i64 p, .int .i64 pw, .int .i64 po, .int .i64 d, .int .i64 chk, .int .i64 c] 29)).alloc (.cells #[.int .i64 b] 2)).alloc (.cells #[.int .i64 e] 2)) w' ∧ w.heap.size < w'.heap.size ∧ w.heap.size + 1 < w'.heap.size ∧ w.heap.size + 1 + 1 < w'.heap.size ∧ w'.cell? ⟨w.heap.size, 0, none⟩ = some (.int .i64 p) ∧ w'.cell? ⟨w.heap.size, 1, none⟩ = some (.int .i64 pw) ∧ w'.cell? ⟨w.heap.size, 2, none⟩ = some (.int .i64 po) ∧ w'.cell? ⟨w.heap.size, 3, none⟩ = some (.int .i64 d) ∧ w'.cell? ⟨w.heap.size, 4, none⟩ = some (.int .i64 chk) ∧ w'.cell? ⟨w.heap.size, 5, none⟩ = some (.int .i64 c) ∧ w'.cell? ⟨w.heap.size + 1, 0, none⟩ = some (.int .i64 b) ∧ w'.cell? ⟨w.heap.size + 1 + 1, 0, none⟩ = some (.int .i64 e)) (exact HS.out _ (by repeat' (first | (with_reducible exact Below.refl _ _) | (with_reducible assumption) | (with_reducible refine Below.alloc ?_ ?_ _) | (with_reducible refine Below.setCell ?_ ?_ _) | (with_reducible refine Below.drew ?_) | (with_reducible refine below_drewN ?_ _) | (with_reducible refine below_via (by with_reducible assumption) ?_ ?_) | go_size))) ((first | (go_at_call 59; refine (iIn _ _ _ _).mono ?_; rintro x0 w' ⟨rfl, rfl⟩; (first | rw [h1] | rw [h2])) | (go_at_call 64; refine (iShare p pw po d chk c b _ c1 c2 d2).mono ?_; rintro x0 w2 ⟨rfl, hb2⟩; obtain ⟨hc2, hf2⟩ := bcell hb2; have hy := hb2.size; (try simp at hy); have hy0 : w.heap.size < w2.heap.size := (by omega))))
  have hB2 : Below (w.heap.size + 3) (((w.alloc (.cells #[.int .i64 p, .int .i64 pw, .int .i64 po, .int .i64 d, .int .i64 chk, .int .i64 c] 29)).alloc (.cells #[.int .i64 b] 2)).alloc (.cells #[.int .i64 e] 2)) w2 := by repeat' (first | (with_reducible exact Below.refl _ _) | (with_reducible assumption) | (with_reducible refine Below.alloc ?_ ?_ _) | (with_reducible refine Below.setCell ?_ ?_ _) | (with_reducible refine Below.drew ?_) | (with_reducible refine below_drewN ?_ _) | (with_reducible refine below_via (by with_reducible assumption) ?_ ?_) | go_size)
  clear hb2 hb hc2 hf2
  gi_wp2_with (refine ⟨trivial, ?_⟩; gi_at_call 65; refine (callsIn_wide.2 (iOrdMk _ _ _ _ _ _ _)).mono ?_; rintro x0 w' ⟨rfl, rfl⟩)
  obtain ⟨W0, hW0⟩ : ∃ W0 : World, (w2.alloc (.cells #[.int .i64 0] 2)).alloc (.cells #[.int .i64 p, .int .i64 pw, .int .i64 po, .int .i64 d, .int .i64 chk, .int .i64 c] 29) = W0 := ⟨_, rfl⟩
  have hsz : W0.heap.size = w2.heap.size + 1 + 1 := by rw [← hW0]; simp
  have bA : Boxed W0 w2.heap.size 2 (.int .i64 0) := by rw [← hW0]; exact (Boxed.new w2 _ _).alloc _
  have bL : Lay6 W0 (w2.heap.size + 1) p pw po d chk c := by
    rw [← hW0]
    have := Lay6.new (w2.alloc (.cells #[.int .i64 0] 2)) 29 p pw po d chk c
    simpa using this
  have b2a : Boxed w2 (w.heap.size + 1) 2 (.int .i64 b) := by
    have := (Boxed.new (w.alloc (.cells #[.int .i64 p, .int .i64 pw, .int .i64 po, .int .i64 d, .int .i64 chk, .int .i64 c] 29)) 2 (.int .i64 b)).alloc (.cells #[.int .i64 e] 2)
    simp only [World.size_alloc] at this
    exact (hB2.block _ (by omega)).trans this
  have b2b : Boxed w2 (w.heap.size + 1 + 1) 2 (.int .i64 e) := by
    have := Boxed.new ((w.alloc (.cells #[.int .i64 p, .int .i64 pw, .int .i64 po, .int .i64 d, .int .i64 chk, .int .i64 c] 29)).alloc (.cells #[.int .i64 b] 2)) 2 (.int .i64 e)
    simp only [World.size_alloc] at this
    exact (hB2.block _ (by omega)).trans this
  have bB : Boxed W0 (w.heap.size + 1) 2 (.int .i64 b) := by rw [← hW0]; exact (b2a.alloc _).alloc _
  have bE : Boxed W0 (w.heap.size + 1 + 1) 2 (.int .i64 e) := by rw [← hW0]; exact (b2b.alloc _).alloc _
  have hB0 : Below w.heap.size w W0 := by
    rw [← hW0]
    repeat' (first | (with_reducible exact Below.refl _ _) | (with_reducible assumption) | (with_reducible refine Below.alloc ?_ ?_ _) | (with_reducible refine Below.setCell ?_ ?_ _) | (with_reducible refine Below.drew ?_) | (with_reducible refine below_drewN ?_ _) | (with_reducible refine below_via (by with_reducible assumption) ?_ ?_) | go_size)
  rw [hW0]
  clear hW0 b2a b2b hB2 HS hz hz0 hz1 hz2
  have h8 : 1 ≤ 8 := by omega
  have hseq : SeqStopsK Fence.wide (8 - 1) Try.prog 105 #[.pointer (some ⟨w2.heap.size + 1, 0, none⟩)] (fun x : Int × Int => #[Value.int .i64 x.1, .int .i64 x.2]) (KpL w.heap.size (w2.heap.size + 1)) (fun ys => ys = ordL d c C K) (fun pre => pre <+: ordL d c C K) 40000 W0 := by
    intro l J Jx W hW hJ _ hY h0
    refine HOI.out (8 - 1) (by omega) l (w2.heap.size + 1) w.heap.size J Jx (fun pre W W' hj hb => hJ pre W W' none hj (only_of_below hb none) (fun r e => by cases e)) hY W ?_ (by have := hW.size; omega) h0
    exact bL.below hW (by omega)
  refine wpIn_rangeFunc_ownH rfl h8 (gf := 105) (lb := #[.pointer (some ⟨w2.heap.size + 1, 0, none⟩)]) rfl trivial (enters_of Try.func105 (by kernel_rfl) rfl)
    hseq KpL.trans (kpL_b (by omega) (by omega)) (Below.refl _ _) (fun _ => rfl)
    (fun pre W => ((Boxed W w2.heap.size 2 (.int .i64 (pre.length : Int)) ∧ Boxed W (w.heap.size + 1) 2 (.int .i64 b)) ∧ Boxed W (w.heap.size + 1 + 1) 2 (.int .i64 e)) ∧ Below w.heap.size w W ∧ (b, e) ∉ pre)
    (fun cd pre W => (Boxed W w2.heap.size 2 (.int .i64 ((pre.length : Int) - 1)) ∧ Below w.heap.size w W) ∧ cd = .exit 0 ∧ ∃ pre', pre = pre' ++ [(b, e)] ∧ (b, e) ∉ pre')
    (OwnFrom.and (OwnFrom.and (OwnFrom.and (Own.from (boxed_own _ _ (fun pre : List (Int × Int) => Value.int .i64 (pre.length : Int))) _) (Own.from (boxed_own _ _ _) _)) (Own.from (boxed_own _ _ _) _)) (OwnFrom.and (ownFrom_below (Nat.le_refl _) (by omega)) (ownFrom_pure _ (fun pre : List (Int × Int) => (b, e) ∉ pre))))
    (fun cd => OwnFrom.and (OwnFrom.and (Own.from (boxed_own _ _ (fun pre : List (Int × Int) => Value.int .i64 ((pre.length : Int) - 1))) _) (ownFrom_below (Nat.le_refl _) (by omega))) (ownFrom_pure _ (fun pre : List (Int × Int) => cd = .exit 0 ∧ ∃ pre', pre = pre' ++ [(b, e)] ∧ (b, e) ∉ pre')))
    ⟨⟨⟨bA, bB⟩, bE⟩, hB0, by simp⟩
    (fun x a' _ => a' = { tmps := #[.agg #[.int .i64 p, .int .i64 pw, .int .i64 po, .int .i64 d, .int .i64 chk, .int .i64 c], .int .i64 b, .int .i64 e, .pointer (some ⟨w.heap.size, 0, none⟩), .pointer (some ⟨w.heap.size + 1, 0, none⟩), .pointer (some ⟨w.heap.size + 1 + 1, 0, none⟩), .int .i64 0, .int .i64 0, .pointer (some ⟨w2.heap.size, 0, none⟩), .int .i64 x.1, .int .i64 x.2, .agg #[.int .i64 p, .int .i64 pw, .int .i64 po, .int .i64 d, .int .i64 chk, .int .i64 c], .bool true, .bool false, .int .i64 b, .pointer (some ⟨w.heap.size, 5, none⟩), .int .i64 c, .int .i64 (c - 1), .bool true, .bool false, .bool false, .int .i64 e, .agg #[.int .i64 p, .int .i64 pw, .int .i64 po, .int .i64 d, .int .i64 chk, .int .i64 c], .int .i64 b, .int .i64 (shareZ d c b), .pointer (some ⟨w.heap.size, 4, none⟩), .int .i64 chk, .int .i64 (shareZ d c b + chk), .int .i64 (shareZ d c b + chk - 1), .bool true, .bool false, .bool false, .agg #[.int .i64 p, .int .i64 pw, .int .i64 po, .int .i64 d, .int .i64 chk, .int .i64 c], .func (.func 105) #[] #[.pointer (some ⟨w2.heap.size + 1, 0, none⟩)], .int .i64 x.1, .int .i64 x.2, undef, undef, undef, undef, undef, undef, undef, undef, undef, undef, undef], defers := [] })
    (fun _ _ _ _ _ _ hs _ _ => hs)
    ?assign ?body ?done ?stop
  case assign =>
    rintro l pre x W K hI hK
    gi_wp2
    exact hK _ _ (KeepsFrom.refl _ _) (KpL.refl _ _ _) hI rfl
  case body =>
    rintro l pre x a' W hl ⟨r, hr⟩ ⟨⟨⟨hA, hB⟩, hE⟩, hBel, hnin⟩ rfl hlt
    obtain ⟨x, y⟩ := x
    have cA := hA.cell
    have fA := hA.frozen
    have cB := hB.cell
    have cE := hE.cell
    by_cases hxb : x = b
    · subst hxb
      by_cases hye : y = e
      · subst hye
        have t1 : (x == x) = true := by simp
        have t2 : (y == y) = true := by simp
        gi_wp2
        exact ⟨KeepsFrom.refl _ _, ⟨by rw [List.length_append]; simpa using hA, hBel⟩, rfl, pre, rfl, hnin⟩
      · have t1 : (x == x) = true := by simp
        have t2 : (y == e) = false := by simpa using hye
        have HN := Lib.hid (show (x, e) ∉ pre ++ [(x, y)] by
          intro hm
          rcases List.mem_append.1 hm with h3 | h3
          · exact hnin h3
          · simp at h3; exact hye h3.symm)
        have HG := Lib.hid (grownBy_setCell' W w2.heap.size (.int .i64 ((pre.length : Int) + 1)))
        have q9 : (pre.length : Int) < 40000 := by omega
        clear hye hnin
        gi_wp2
        exact ⟨(KeepsOthers.setCell _ _ _).from _, ⟨(Below.refl _ _).setCell (by simp; omega) _, Below.heap_setCell _ _ _ _ (by simp)⟩, ⟨⟨by rw [List.length_append]; exact hA.set _, hB.other (by omega) _⟩, hE.other (by omega) _⟩, hBel.setCell (by simp; omega) _, HN.out⟩
    · have t1 : (x == b) = false := by simpa using hxb
      have HN := Lib.hid (show (b, e) ∉ pre ++ [(x, y)] by
        intro hm
        rcases List.mem_append.1 hm with h3 | h3
        · exact hnin h3
        · simp at h3; exact hxb h3.1.symm)
      have q9 : (pre.length : Int) < 40000 := by omega
      clear hxb hnin
      gi_wp2
      exact ⟨(KeepsOthers.setCell _ _ _).from _, ⟨(Below.refl _ _).setCell (by simp; omega) _, Below.heap_setCell _ _ _ _ (by simp)⟩, ⟨⟨by rw [List.length_append]; exact hA.set _, hB.other (by omega) _⟩, hE.other (by omega) _⟩, hBel.setCell (by simp; omega) _, HN.out⟩
  case done =>
    rintro D ys W hD rfl ⟨-, -, hnin⟩ hK
    exact absurd HMem.out hnin
  case stop =>
    rintro D cd pre W hD hpre ⟨⟨hA, hBel⟩, rfl, pre', rfl, hnin⟩ hK
    obtain ⟨rest, hrest⟩ := hpre
    have HO : Hid (ordAt (b, e) (ordL d c C K) = pre'.length) := by
      unfold Hid
      rw [← hrest, List.append_assoc]
      exact ordAt_app _ hnin
    have cA := hA.cell
    rw [List.length_append] at cA
    have e1 : (((pre'.length + [(b, e)].length : Nat) : Int) - 1) = (pre'.length : Int) := by simp
    rw [e1] at cA
    clear e1 hA
    gi_wp2
    refine ⟨by simp, .inl ⟨_, _, rfl, run_takeDeferred hK, ?_⟩⟩
    exact ⟨_, results_tmp2 rfl _ _ _, by rw [HO.out]; rfl, hBel.trans (belowK_b (w := w) (Nat.le_refl _) W D _ _ (by omega) hK rfl rfl)⟩
end Go.Proofs.Ytdpifddmhbeklaa
