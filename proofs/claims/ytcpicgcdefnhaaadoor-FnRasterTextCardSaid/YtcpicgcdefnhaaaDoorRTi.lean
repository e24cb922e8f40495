/-
  DERIVED. impl.decimals, impl.RasterText.
-/
import Derived.Test.YtcpicgcdefnhaaaDoorAppI
import Derived.Test.YtcpicgcdefnhaaaDoorRTs
namespace Go.Proofs.YtcpicgcdefnhaaaDoor
open Go.RowKit Go.Lib
set_option linter.unusedVariables false
theorem PowB.on {B B' : Nat} {w w1 : World} (h : PowB B w) (hb : Below B w w1) (hB : B ≤ B') : PowB B' w1 := fun w' h' => h w' (hb.trans (h'.mono hB))
theorem itoa_pos {x : Int} (h : 0 ≤ x) : 1 ≤ (itoa x).length := by
  obtain ⟨n, rfl⟩ := Int.eq_ofNat_of_zero_le h
  rw [itoa_nn, decDigits_length]
  exact nDigits_pos n
theorem jn_pos {L : List Int} (h : L ≠ []) (h2 : ∀ x ∈ L, 0 ≤ x) : 1 ≤ (jn L).length := by
  cases L with
  | nil => exact absurd rfl h
  | cons x r =>
    have := itoa_pos (h2 x (by simp))
    simp only [jn, List.length_append]
    omega
theorem own_some {w : World} {base n m : Nat} {t : TypeId} {v : Value} {xs : List Value} (h : w.ownsRow base t m v n xs) (hn : 0 < n) : v ≠ .slice none 0 0 := by
  rcases h.2 with ⟨_, h0⟩ | ⟨g, cap, cur, rfl, _⟩
  · omega
  · simp
theorem own_below8 {w w' : World} {base n m : Nat} {t : TypeId} {v : Value} {xs : List Value} {o : Obj} (h : w.ownsRow base t m v n xs) (hb : base ≤ w.heap.size) (hg : (w.alloc o).grownBy w' v.ownBlock) : Below base w w' :=
  ((Below.refl base w).alloc hb o).grown hg (by simp; omega) (fun j e => (h.lt j e).1)
theorem own_shapeR {w : World} {base n m : Nat} {t : TypeId} {v : Value} {xs : List Value} (h : w.ownsRow base t m v n xs) : ∃ a cp, v = .slice a n cp := by
  rcases h.2 with ⟨rfl, h0⟩ | ⟨g, cap, cur, rfl, _⟩
  · exact ⟨none, 0, by rw [h0]⟩
  · exact ⟨_, _, rfl⟩
theorem rd_newsR {w : World} {b off n : Nat} {zs : List Int} (h : Rd w (some ⟨b, off, none⟩) n zs) (hn : 1 ≤ n) : ∀ j u, (zs.map (Value.int .i64))[j]? = some u → w.cell? ((⟨b, off, none⟩ : Addr).add j) = some u := by
  intro j u hj
  obtain ⟨b', off', e, hlt, hc⟩ := h.2 (by omega)
  injection e with e
  injection e with e1 e2
  subst e1 e2
  have hlen := h.1
  have hj2 : j < zs.length := by
    have := (List.getElem?_eq_some_iff.1 hj).1
    simpa using this
  rw [Addr.add_lit, hc j (by omega)]
  simp [List.getElem?_map, List.getElem?_eq_getElem hj2] at hj
  rw [← hj, List.getD_eq_getElem?_getD, List.getElem?_eq_getElem hj2]
  rfl
theorem own_capsR {w : World} {base n c m : Nat} {t : TypeId} {a : Option Addr} {xs : List Value} (h : w.ownsRow base t m (.slice a n c) n xs) : n ≤ c ∧ c ≤ maxLen := by
  rcases h.2 with ⟨hv, h0⟩ | ⟨g, cap, cur, hv, hg, hh, h1, h2, _⟩
  · injection hv with _ _ e
    unfold maxLen
    omega
  · injection hv with _ _ e
    omega
set_option maxRecDepth 20000 in
set_option maxHeartbeats 4000000 in
theorem iDecimals (a : Option Addr) (n cp : Nat) (L : List Int) (w : World) (h : Rd w a n L) (hn1 : 1 ≤ n) (hn : n ≤ 40002) (hb : ∀ x ∈ L, 0 ≤ x ∧ x ≤ 999) (hp : PowB w.heap.size w) :
    Calls Tryd.prog 35 #[.slice a n cp] w fun e w' => e = .returned (.string ⟨(jn L).toArray⟩) ∧ Below w.heap.size w w' := by
  have HL := Lib.hid h.1
  obtain ⟨pb, poff, rfl, hpb, hpc⟩ := h.2 (by omega)
  have HPc := Lib.hid hpc
  have HBd := Lib.hid hb
  have HP := Lib.hid hp
  clear h hb hp hpc
  obtain ⟨i0, hi, hiz, hi1, hi2⟩ := info_parts infoU8
  have HLen : Hid (∀ k, k ≤ n → (jn (L.take k)).length ≤ 200000) := fun k hk => by
    have h1 := jn_len (L := L.take k) (fun x hx => HBd.out x (List.mem_of_mem_take hx))
    have h2 : (L.take k).length ≤ n := by rw [List.length_take]; omega
    omega
  have HO0 : Hid ((w.alloc (.cells #[] 5)).ownsRow w.heap.size 5 1 (.slice (some ⟨w.heap.size, 0, none⟩) 0 0) 0 []) := World.ownsRow_lit (base := w.heap.size) (e := 5) (size := 1) w #[] 0 (Nat.le_refl _) (by unfold maxLen; omega) (by simp)
  have HB0 : Hid (Below w.heap.size w (w.alloc (.cells #[] 5))) := (Below.refl _ _).alloc (Nat.le_refl _) _
  go_enter Tryd.func35, Tryd.ntmps35
  go_wp2_with fail
  go_loopw [3, 9] (fun v i wr => ∃ k N : Nat, k ≤ n ∧ i = .int .i64 (k : Int) ∧ Hid (wr.ownsRow w.heap.size 5 1 v N (byteCells (jn (L.take k)))) ∧ Hid (Below w.heap.size w wr)) (fun _ i _ => n - (RowKit.intOf i).toNat)
  case atStart => exact ⟨0, 0, Nat.zero_le _, rfl, HO0.out, HB0.out⟩
  case round =>
    clear HO0 HB0
    obtain ⟨k, N, hk, rfl, HO, HB⟩ := hrel
    have hzr := HB.out.size
    have HNl : Hid (N = (jn (L.take k)).length) := by unfold Hid; have := HO.out.1; rw [byteCells_length] at this; omega
    have hN2 : N ≤ 200000 := by rw [HNl.out]; exact HLen.out k hk
    by_cases hlt : k < n
    · have hx := (HB.out.cell (p := ⟨pb, poff + k, none⟩) hpb).trans (HPc.out k hlt)
      have hxb := HBd.out _ ((show L.getD k 0 ∈ L from getD_mem (by rw [HL.out]; exact hlt)))
      have HTk : Hid (L.take (k + 1) = L.take k ++ [L.getD k 0]) := take_stepR (by rw [HL.out]; exact hlt)
      obtain ⟨x, hxv⟩ : ∃ x, L.getD k 0 = x := ⟨_, rfl⟩
      rw [hxv] at hx hxb HTk
      obtain ⟨x0, x9⟩ := hxb
      have k0 : (0 : Int) ≤ (k : Int) := by omega
      have k1 : (k : Int) < (n : Int) := by omega
      clear hxv
      rcases Nat.eq_zero_or_pos k with hk0 | hkp
      · have HJ : Hid (byteCells (jn (L.take (k + 1))) = byteCells (jn (L.take k)) ++ byteCells (itoa x)) := by
          unfold Hid
          rw [HTk.out, hk0, List.take_zero, List.nil_append, jn_one]
          rfl
        have kz : ¬ ((0 : Int) < (k : Int)) := by omega
        clear hk0
        go_wp2_with fail
        refine (lAppendInt w.heap.size N x (by omega) (by omega) _ _ wr HO.out (by omega) (by omega) (HP.out.on HB.out (Nat.le_refl _))).mono ?_
        rintro e w3 ⟨v3, rfl, hown3, hb3⟩
        rw [← HJ.out] at hown3
        have HO3 := Lib.hid hown3
        have HB3 : Hid (Below w.heap.size w w3) := HB.out.trans hb3
        clear hown3 hb3 HO HB hx
        go_wp2_with fail
        go_roundw
        case rel => exact ⟨k + 1, _, by omega, by go_num, HO3.out, HB3.out⟩
        case measure => simp [RowKit.intOf]; omega
      · have kp : (0 : Int) < (k : Int) := by omega
        have HJ : Hid (byteCells (jn (L.take (k + 1))) = (byteCells (jn (L.take k)) ++ [.int .u8 32]) ++ byteCells (itoa x)) := by
          unfold Hid
          rw [HTk.out, jn_snoc (by
            intro e
            have : (L.take k).length = 0 := by rw [e]; rfl
            rw [List.length_take, HL.out] at this
            omega)]
          simp [byteCells]
        obtain ⟨bs, hbs⟩ : ∃ bs, byteCells (jn (L.take k)) = bs := ⟨_, rfl⟩
        rw [hbs] at HO HJ
        clear hbs
        go_wp2_with (at_builtin; refine wpList_append_own _ rfl _ _ 35 rfl w.heap.size 5 i0 _ 1 1 Tryd.underlying35 hi hiz hi1 hi2 rfl (by decide) _ _ _ rfl (HO.out.alloc _) ⟨wr.heap.size, 0, none⟩ 1 1 [.int .u8 32] rfl rfl (news8 wr _ _) (by simp [Value.oneCell']) (by unfold maxLen; omega) (by omega) (by simp; omega) ?_; intro v2 w2 hown2 hgrow2 _; have HO2 := Lib.hid hown2; have hb2 : Below w.heap.size wr w2 := own_below8 HO.out (by omega) hgrow2; have hz2 := hb2.size; have HB2 : Hid (Below w.heap.size w w2) := HB.out.trans hb2; clear hown2 hgrow2 hb2)
        (try go_wp2_with fail)
        refine (lAppendInt w.heap.size (N + 1) x (by omega) (by omega) _ _ w2 HO2.out (by omega) (by omega) (HP.out.on HB2.out (Nat.le_refl _))).mono ?_
        rintro e w3 ⟨v3, rfl, hown3, hb3⟩
        rw [← HJ.out] at hown3
        have HO3 := Lib.hid hown3
        have HB3 : Hid (Below w.heap.size w w3) := HB2.out.trans hb3
        clear hown3 hb3 HO HB HO2 HB2 hx
        go_wp2_with fail
        go_roundw
        case rel => exact ⟨k + 1, _, by omega, by go_num, HO3.out, HB3.out⟩
        case measure => simp [RowKit.intOf]; omega
    · have hke : k = n := by omega
      subst hke
      have htk : L.take k = L := by rw [← HL.out]; exact List.take_length
      rw [htk] at HO HNl
      have hN1 : 1 ≤ N := by
        rw [HNl.out]
        exact jn_pos (by intro e; have := HL.out; rw [e] at this; simp at this; omega) (fun x hx => (HBd.out x hx).1)
      have hcv := stringOf (OwnM.of HO.out) (own_some HO.out (by omega))
      clear hlt
      go_wp2
      go_returns
      exact ⟨rfl, HB.out⟩
set_option maxRecDepth 20000 in
set_option maxHeartbeats 4000000 in
theorem iRText (r c : Int) (a : Option Addr) (n cp : Nat) (zs : List Int) (w : World) (h : Rd w a n zs) (hn : n ≤ 1048576) (hp : PowB w.heap.size w) :
    Calls Tryd.prog 14 #[.agg #[.int .i64 r, .int .i64 c, .slice a n cp]] w fun e w' => e = .returned (.string (rText r c n zs)) ∧ Below w.heap.size w w' := by
  have HR := Lib.hid h
  have HP := Lib.hid hp
  clear h hp
  obtain ⟨vb, hvb⟩ : ∃ b, rasterB r c n zs = b := ⟨_, rfl⟩
  cases vb
  · have HT : Hid (rText r c n zs = ⟨#[]⟩) := by unfold Hid rText; rw [hvb]; rfl
    go_enter Tryd.func14, Tryd.ntmps14
    go_wp2_with fail
    refine (iIsRaster r c a n cp zs _ (HR.out.below (by repeat' (first | (with_reducible exact Below.refl _ _) | (with_reducible assumption) | (with_reducible refine Below.alloc ?_ ?_ _) | (with_reducible refine Below.setCell ?_ ?_ _) | (with_reducible refine Below.drew ?_) | (with_reducible refine below_drewN ?_ _) | (with_reducible refine below_via (by with_reducible assumption) ?_ ?_) | go_size))) hn).mono ?_
    rintro e w1 ⟨rfl, hb1⟩
    rw [hvb]
    have hz1 := hb1.size
    simp at hz1
    go_wp2_with fail
    go_returns
    exact ⟨by rw [HT.out]; rfl, by repeat' (first | (with_reducible exact Below.refl _ _) | (with_reducible assumption) | (with_reducible refine Below.alloc ?_ ?_ _) | (with_reducible refine Below.setCell ?_ ?_ _) | (with_reducible refine Below.drew ?_) | (with_reducible refine below_drewN ?_ _) | (with_reducible refine below_via (by with_reducible assumption) ?_ ?_) | go_size)⟩
  obtain ⟨r1, r2, c1, c2, p1, p2, hnn, hpx⟩ := rasterB_yes hvb
  have HT : Hid (rText r c n zs = ⟨(jn (r :: c :: zs)).toArray⟩) := by unfold Hid rText; rw [hvb]; rfl
  have HV := Lib.hid hvb
  have hn4 : n ≤ 40000 := by omega
  have hn1 : 1 ≤ n := by omega
  have HBd : Hid (∀ x ∈ r :: c :: zs, 0 ≤ x ∧ x ≤ 999) := fun x hx => by
    rcases List.mem_cons.1 hx with rfl | hx
    · omega
    · rcases List.mem_cons.1 hx with rfl | hx
      · omega
      · have := hpx x hx
        omega
  clear hvb hpx p1 p2 hnn r1 r2 c1 c2
  obtain ⟨pb, poff, rfl, hpb, -⟩ := HR.out.2 (by omega)
  obtain ⟨i0, hi, hiz, hi1, hi2⟩ := info_parts infoInt
  have K0 : Hid (Box3 (w.alloc (.cells #[.int .i64 r, .int .i64 c, .slice (some ⟨pb, poff, none⟩) n cp] 24)) w.heap.size (.int .i64 r) (.int .i64 c) (.slice (some ⟨pb, poff, none⟩) n cp)) := Box3.new w 24 _ _ _
  go_enter Tryd.func14, Tryd.ntmps14
  go_wp2_with fail
  refine (iIsRaster r c (some ⟨pb, poff, none⟩) n cp zs _ (HR.out.below (by repeat' (first | (with_reducible exact Below.refl _ _) | (with_reducible assumption) | (with_reducible refine Below.alloc ?_ ?_ _) | (with_reducible refine Below.setCell ?_ ?_ _) | (with_reducible refine Below.drew ?_) | (with_reducible refine below_drewN ?_ _) | (with_reducible refine below_via (by with_reducible assumption) ?_ ?_) | go_size))) hn).mono ?_
  rintro e w1 ⟨rfl, hb1⟩
  rw [HV.out]
  have K1 := Lib.hid (K0.out.keep hb1)
  have hz1 := hb1.size
  simp at hz1
  have HB1 : Hid (Below w.heap.size w w1) := by unfold Hid; repeat' (first | (with_reducible exact Below.refl _ _) | (with_reducible assumption) | (with_reducible refine Below.alloc ?_ ?_ _) | (with_reducible refine Below.setCell ?_ ?_ _) | (with_reducible refine Below.drew ?_) | (with_reducible refine below_drewN ?_ _) | (with_reducible refine below_via (by with_reducible assumption) ?_ ?_) | go_size)
  clear hb1 K0
  have HR1 := Lib.hid (HR.out.below HB1.out)
  obtain ⟨q_, q0, q1, q2⟩ := K1.out
  have HO1 : Hid ((w1.alloc (.cells #[.int .i64 r, .int .i64 c] 2)).ownsRow w1.heap.size 2 1 (.slice (some ⟨w1.heap.size, 0, none⟩) 2 2) 2 [.int .i64 r, .int .i64 c]) := World.ownsRow_lit (base := w1.heap.size) (e := 2) (size := 1) w1 #[.int .i64 r, .int .i64 c] 2 (Nat.le_refl _) (by unfold maxLen; omega) (by simp)
  have HOne : Hid (∀ u ∈ zs.map (Value.int .i64), u.oneCell' = true) := fun u hu => by
    obtain ⟨_, _, rfl⟩ := List.mem_map.1 hu
    rfl
  have HLm : Hid ((zs.map (Value.int .i64)).length = n * 1) := by unfold Hid; rw [List.length_map, HR.out.1, Nat.mul_one]
  have HNews : Hid (∀ j u, (zs.map (Value.int .i64))[j]? = some u → (w1.alloc (.cells #[.int .i64 r, .int .i64 c] 2)).cell? ((⟨pb, poff, none⟩ : Addr).add j) = some u) := rd_newsR (HR1.out.below ((Below.refl _ _).alloc (Nat.le_refl _) _)) hn1
  obtain ⟨news, hnews⟩ : ∃ l, zs.map (Value.int .i64) = l := ⟨_, rfl⟩
  rw [hnews] at HOne HLm HNews
  have HNw := Lib.hid hnews
  clear hnews
  go_wp2_with (at_builtin; refine wpList_append_own _ rfl _ _ 22 rfl w1.heap.size 2 i0 _ 1 8 Tryd.underlying22 hi hiz hi1 hi2 rfl (by decide) _ _ _ rfl HO1.out ⟨pb, poff, none⟩ n _ news rfl HLm.out HNews.out HOne.out (by unfold maxLen; omega) (by omega) (by simp) ?_; intro v2 w2 hown2 hgrow2 _; have HO2 : Hid (w2.ownsRow w1.heap.size 2 1 v2 (2 + n) ((r :: c :: zs).map (Value.int .i64))) := (by have h := hown2; rw [← HNw.out] at h; exact h); have hb2 : Below w1.heap.size w1 w2 := (((Below.refl _ _).alloc (Nat.le_refl _) _).grown hgrow2 (by simp) (fun j e => Nat.le_of_eq (Option.some.inj e))); have hz2 := hb2.size; have HB2 : Hid (Below w.heap.size w w2) := HB1.out.trans (hb2.mono (by omega)); clear hown2 hgrow2 hb2)
  (try go_wp2_with fail)
  obtain ⟨va, vc, rfl⟩ : ∃ va vc, v2 = .slice va (2 + n) vc := own_shapeR HO2.out
  refine (iDecimals va (2 + n) vc (r :: c :: zs) w2 (own_rd HO2.out) (by omega) (by omega) HBd.out (HP.out.on HB2.out (by omega))).mono ?_
  rintro e w3 ⟨rfl, hb3⟩
  have HB3 : Hid (Below w.heap.size w w3) := HB2.out.trans (hb3.mono (by omega))
  clear hb3
  go_wp2_with fail
  go_returns
  exact ⟨by rw [HT.out]; rfl, HB3.out⟩
end Go.Proofs.YtcpicgcdefnhaaaDoor
