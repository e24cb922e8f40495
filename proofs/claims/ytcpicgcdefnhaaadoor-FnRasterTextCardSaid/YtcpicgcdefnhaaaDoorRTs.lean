/-
  DERIVED. spec.RasterText.
-/
import Derived.Test.YtcpicgcdefnhaaaDoorRTp
import Derived.Deep.Cut
import Derived.Deep.CutRange
namespace Go.Proofs.YtcpicgcdefnhaaaDoor
open Go.RowKit Go.Lib
set_option linter.unusedVariables false
theorem infoU8 : (Tryd.prog.info? 5).map (fun i => (i.zero, i.size, i.bytes)) = some (some (.int .u8 0), 1, 1) := by kernel_rfl
theorem news8 (w : World) (v : Value) (t : TypeId) : ∀ j u, ([v] : List Value)[j]? = some u → (w.alloc (.cells #[v] t)).cell? ((⟨w.heap.size, 0, none⟩ : Addr).add j) = some u := World.news_of_block (heap_alloc_new w _)
theorem take_stepR {Q : List Int} {k : Nat} (h : k < Q.length) : Q.take (k + 1) = Q.take k ++ [Q.getD k 0] := by
  rw [List.take_add_one, List.getD_eq_getElem?_getD, List.getElem?_eq_getElem h]; rfl
theorem OwnM.ofJ {w : World} {base b2 : Nat} {e : TypeId} {v : Value} {n : Nat} {xs ys : List Value} (h : OwnM w base e v n xs) (e1 : xs = ys) (hb : b2 ≤ base) : OwnM w b2 e v n ys := by
  subst e1
  refine ⟨h.1, ?_⟩
  rcases h.2 with hv | ⟨g, cap, cur, fz, hv, hg, r⟩
  · exact .inl hv
  · exact .inr ⟨g, cap, cur, fz, hv, Nat.le_trans hb hg, r⟩
theorem dec_size {n : Nat} (h : n < 1000) : (⟨(decDigits n).toArray⟩ : ByteArray).size ≤ 3 := by
  have h1 : (⟨(decDigits n).toArray⟩ : ByteArray).size = (decDigits n).length := List.size_toArray
  rw [h1, decDigits_length]
  exact nDig_3 h
theorem OwnM.below {w w' : World} {base : Nat} {e : TypeId} {v : Value} {n : Nat} {xs : List Value} {o : Obj} (h : OwnM w base e v n xs) (hb : base ≤ w.heap.size) (hg : (w.alloc o).grownBy w' v.ownBlock) : Below base w w' :=
  ((Below.refl base w).alloc hb o).grown hg (by simp; omega) (fun j e => (h.lt j e).1)
theorem OwnM.below0 {w w' : World} {base : Nat} {e : TypeId} {v : Value} {n : Nat} {xs : List Value} (h : OwnM w base e v n xs) (hb : base ≤ w.heap.size) (hg : w.grownBy w' v.ownBlock) : Below base w w' :=
  (Below.refl base w).grown hg hb (fun j e => (h.lt j e).1)
set_option maxRecDepth 20000 in
set_option maxHeartbeats 4000000 in
theorem sRText (r c : Int) (a : Option Addr) (n cp : Nat) (zs : List Int) (w : World) (h : Rd w a n zs) (hn : n ≤ 1048576) :
    Calls Tryd.prog 12 #[.agg #[.int .i64 r, .int .i64 c, .slice a n cp]] w fun e w' => e = .returned (.string (rText r c n zs)) ∧ Below w.heap.size w w' := by
  have HR := Lib.hid h
  have HL := Lib.hid h.1
  clear h
  obtain ⟨vb, hvb⟩ : ∃ b, rasterB r c n zs = b := ⟨_, rfl⟩
  cases vb
  · have HT : Hid (rText r c n zs = ⟨#[]⟩) := by unfold Hid rText; rw [hvb]; rfl
    go_enter Tryd.func12, Tryd.ntmps12
    go_wp2_with fail
    refine (sIsRaster r c a n cp zs _ (HR.out.below (by repeat' (first | (with_reducible exact Below.refl _ _) | (with_reducible assumption) | (with_reducible refine Below.alloc ?_ ?_ _) | (with_reducible refine Below.setCell ?_ ?_ _) | (with_reducible refine Below.drew ?_) | (with_reducible refine below_drewN ?_ _) | (with_reducible refine below_via (by with_reducible assumption) ?_ ?_) | go_size))) hn).mono ?_
    rintro e w1 ⟨rfl, hb1⟩
    rw [hvb]
    have hz1 := hb1.size
    simp at hz1
    go_wp2_with fail
    go_returns
    exact ⟨by rw [HT.out]; rfl, by repeat' (first | (with_reducible exact Below.refl _ _) | (with_reducible assumption) | (with_reducible refine Below.alloc ?_ ?_ _) | (with_reducible refine Below.setCell ?_ ?_ _) | (with_reducible refine Below.drew ?_) | (with_reducible refine below_drewN ?_ _) | (with_reducible refine below_via (by with_reducible assumption) ?_ ?_) | go_size)⟩
  obtain ⟨r1, r2, c1, c2, p1, p2, hnn, hpx⟩ := rasterB_yes hvb
  obtain ⟨R, rfl⟩ := Int.eq_ofNat_of_zero_le (show 0 ≤ r by omega)
  obtain ⟨C, rfl⟩ := Int.eq_ofNat_of_zero_le (show 0 ≤ c by omega)
  have HT : Hid (rText (R : Int) (C : Int) n zs = ⟨(jn ((R : Int) :: (C : Int) :: zs)).toArray⟩) := by unfold Hid rText; rw [hvb]; rfl
  have HV := Lib.hid hvb
  have HPx := Lib.hid hpx
  have hn4 : n ≤ 40000 := by omega
  clear hvb hpx p1 p2 hnn
  have HIR : Hid (∀ W, Calls Tryd.prog 33 #[.int .i64 (R : Int)] W fun e w' => e = .returned (.string ⟨(decDigits R).toArray⟩) ∧ Below W.heap.size W w') := sDec R (by omega)
  have HIC : Hid (∀ W, Calls Tryd.prog 33 #[.int .i64 (C : Int)] W fun e w' => e = .returned (.string ⟨(decDigits C).toArray⟩) ∧ Below W.heap.size W w') := sDec C (by omega)
  have hSR := dec_size (n := R) (by omega)
  have hSC := dec_size (n := C) (by omega)
  have HJ : Hid (strCells (((⟨(decDigits R).toArray⟩ : ByteArray) ++ ⟨#[32]⟩) ++ ⟨(decDigits C).toArray⟩) = byteCells (jn [(R : Int), (C : Int)])) := by
    unfold Hid
    rw [ByteArray.mk_append_mk, ByteArray.mk_append_mk, jn_two, ← strCells_of]
  obtain ⟨SR, hR⟩ : ∃ S : ByteArray, S = ⟨(decDigits R).toArray⟩ := ⟨_, rfl⟩
  obtain ⟨SC, hC⟩ : ∃ S : ByteArray, S = ⟨(decDigits C).toArray⟩ := ⟨_, rfl⟩
  rw [← hR] at HIR HJ hSR
  rw [← hC] at HIC HJ hSC
  clear hR hC
  have K0 : Hid (Box3 (w.alloc (.cells #[.int .i64 (R : Int), .int .i64 (C : Int), .slice a n cp] 24)) w.heap.size (.int .i64 (R : Int)) (.int .i64 (C : Int)) (.slice a n cp)) := Box3.new w 24 _ _ _
  go_enter Tryd.func12, Tryd.ntmps12
  go_wp2_with fail
  refine (sIsRaster (R : Int) (C : Int) a n cp zs _ (HR.out.below (by repeat' (first | (with_reducible exact Below.refl _ _) | (with_reducible assumption) | (with_reducible refine Below.alloc ?_ ?_ _) | (with_reducible refine Below.setCell ?_ ?_ _) | (with_reducible refine Below.drew ?_) | (with_reducible refine below_drewN ?_ _) | (with_reducible refine below_via (by with_reducible assumption) ?_ ?_) | go_size))) hn).mono ?_
  rintro e w1 ⟨rfl, hb1⟩
  rw [HV.out]
  have K1 := Lib.hid (K0.out.keep hb1)
  have hz1 := hb1.size
  simp at hz1
  have HB1 : Hid (Below w.heap.size w w1) := by unfold Hid; repeat' (first | (with_reducible exact Below.refl _ _) | (with_reducible assumption) | (with_reducible refine Below.alloc ?_ ?_ _) | (with_reducible refine Below.setCell ?_ ?_ _) | (with_reducible refine Below.drew ?_) | (with_reducible refine below_drewN ?_ _) | (with_reducible refine below_via (by with_reducible assumption) ?_ ?_) | go_size)
  clear hb1 K0
  have hlt1 : w.heap.size < w1.heap.size := by omega
  have DB : Below w1.heap.size w1 w1.drew := (Below.refl _ _).drew
  have hs1 : ¬ (9223372036854775807 < SR.size + 1) := by omega
  have hs2 : ¬ (9223372036854775807 < SR.size + 1 + SC.size) := by omega
  have hS : ((SR ++ ⟨#[32]⟩) ++ SC).size ≤ 1048576 := by
    rw [ByteArray.size_append, ByteArray.size_append]
    have : (⟨#[32]⟩ : ByteArray).size = 1 := rfl
    omega
  have hN : ((SR ++ ⟨#[32]⟩) ++ SC).size ≤ 100 := by
    rw [ByteArray.size_append, ByteArray.size_append]
    have : (⟨#[32]⟩ : ByteArray).size = 1 := rfl
    omega
  go_upto_region 3 with (fail)
  go_cut [3] from 5 (fun v wx => v ≠ .slice none 0 0 ∧ ∃ N : Nat, N ≤ 100 ∧ Hid (OwnM wx w1.heap.size 5 v N (byteCells (jn [(R : Int), (C : Int)]))) ∧ Hid (Below w1.heap.size w1 wx))
  case first =>
    obtain ⟨q_, q0, q1, q2⟩ := K1.out
    go_region_law ((go_simp; (first | (with_reducible refine (HIR.out _).mono ?_; rintro e wR ⟨rfl, hbR⟩; have HWR : Below w1.heap.size w1 wR := (by repeat' (first | (with_reducible exact Below.refl _ _) | (with_reducible assumption) | (with_reducible refine Below.alloc ?_ ?_ _) | (with_reducible refine Below.setCell ?_ ?_ _) | (with_reducible refine Below.drew ?_) | (with_reducible refine below_drewN ?_ _) | (with_reducible refine below_via (by with_reducible assumption) ?_ ?_) | go_size)); have q0R := (HWR.cell (p := ⟨w.heap.size, 0, none⟩) hlt1).trans q0; have q1R := (HWR.cell (p := ⟨w.heap.size, 1, none⟩) hlt1).trans q1; obtain ⟨vR, XR, hcR, hoR, hvR, hbXR⟩ := bytesOf wR ((SR ++ ⟨#[32]⟩) ++ SC) hS; have hzR := HWR.size) | (with_reducible refine (HIC.out _).mono ?_; rintro e wC ⟨rfl, hbC⟩; have HWC : Below w1.heap.size w1 wC := (by repeat' (first | (with_reducible exact Below.refl _ _) | (with_reducible assumption) | (with_reducible refine Below.alloc ?_ ?_ _) | (with_reducible refine Below.setCell ?_ ?_ _) | (with_reducible refine Below.drew ?_) | (with_reducible refine below_drewN ?_ _) | (with_reducible refine below_via (by with_reducible assumption) ?_ ?_) | go_size)); have q0C := (HWC.cell (p := ⟨w.heap.size, 0, none⟩) hlt1).trans q0; have q1C := (HWC.cell (p := ⟨w.heap.size, 1, none⟩) hlt1).trans q1; obtain ⟨vC, XC, hcC, hoC, hvC, hbXC⟩ := bytesOf wC ((SR ++ ⟨#[32]⟩) ++ SC) hS; have hzC := HWC.size))))
    all_goals
      go_wp2_with fail
      go_meet
      case rel => first
        | exact ⟨hvC, _, hN, hoC.ofJ HJ.out HWC.size, HWC.trans (hbXC.mono HWC.size)⟩
        | exact ⟨hvR, _, hN, hoR.ofJ HJ.out HWR.size, HWR.trans (hbXR.mono HWR.size)⟩
  clear HIR HIC HJ hSR hSC hs1 hs2 hS DB
  obtain ⟨hv0, N0, hN0, HO0, HB0⟩ := hcut
  obtain ⟨w2, rfl⟩ : ∃ W : World, W = wc := ⟨_, rfl⟩
  obtain ⟨i0, hi, hiz, hi1, hi2⟩ := info_parts infoU8
  have K2 := Lib.hid (K1.out.keep HB0.out)
  have HL3 : Hid (∀ k, k ≤ n → (jn ((R : Int) :: (C : Int) :: zs.take k)).length ≤ 200000) := fun k hk => by
    have h1 := jn_len (L := (R : Int) :: (C : Int) :: zs.take k) (fun x hx => by
      rcases List.mem_cons.1 hx with rfl | hx
      · omega
      · rcases List.mem_cons.1 hx with rfl | hx
        · omega
        · have := HPx.out x (List.mem_of_mem_take hx)
          omega)
    simp only [List.length_cons, List.length_take] at h1
    omega
  have hz2 := HB0.out.size
  go_wp2_with fail
  go_loopw [3, 4] (fun v i wr => ∃ k N : Nat, k ≤ n ∧ i = .int .i64 (k : Int) ∧ v ≠ .slice none 0 0 ∧ Hid (OwnM wr w1.heap.size 5 v N (byteCells (jn ((R : Int) :: (C : Int) :: zs.take k)))) ∧ Hid (Below w1.heap.size w1 wr)) (fun _ i _ => n - (intOf i).toNat)
  case atStart => exact ⟨0, N0, Nat.zero_le _, rfl, hv0, by rw [List.take_zero]; exact HO0.out, HB0.out⟩
  case round =>
    clear HO0 HB0 K2
    obtain ⟨k, N, hk, rfl, hv, HO, HB⟩ := hrel
    have K := Lib.hid (K1.out.keep HB.out)
    have hzr := HB.out.size
    have HNl : Hid (N = (jn ((R : Int) :: (C : Int) :: zs.take k)).length) := by unfold Hid; rw [← HO.out.1, byteCells_length]
    have hN2 : N ≤ 200000 := by rw [HNl.out]; exact HL3.out k hk
    obtain ⟨q_, q0, q1, q2⟩ := K.out
    by_cases hlt : k < n
    · obtain ⟨pb, poff, rfl, hpb, hpc⟩ := HR.out.2 (by omega)
      have hBw : Below w.heap.size w wr := HB1.out.trans (HB.out.mono (by omega))
      have hx := (hBw.cell (p := ⟨pb, poff + k, none⟩) hpb).trans (hpc k hlt)
      have hxm : zs.getD k 0 ∈ zs := getD_mem (by rw [HL.out]; exact hlt)
      have hxb := HPx.out _ hxm
      have HTk : Hid (zs.take (k + 1) = zs.take k ++ [zs.getD k 0]) := take_stepR (by rw [HL.out]; exact hlt)
      obtain ⟨x, hxv⟩ : ∃ x, zs.getD k 0 = x := ⟨_, rfl⟩
      rw [hxv] at hx hxb HTk
      obtain ⟨x, rfl⟩ := Int.eq_ofNat_of_zero_le hxb.1
      have HJ : Hid (byteCells (jn ((R : Int) :: (C : Int) :: zs.take (k + 1))) = (byteCells (jn ((R : Int) :: (C : Int) :: zs.take k)) ++ [.int .u8 32]) ++ strCells ⟨(decDigits x).toArray⟩) := by
        unfold Hid
        rw [HTk.out]
        have h1 := jn_snoc (L := (R : Int) :: (C : Int) :: zs.take k) (by simp) (x : Int)
        rw [List.cons_append, List.cons_append] at h1
        rw [h1, itoa_nn, strCells_of]
        simp [byteCells]
      have HID : Hid (∀ W, Calls Tryd.prog 33 #[.int .i64 (x : Int)] W fun e w' => e = .returned (.string ⟨(decDigits x).toArray⟩) ∧ Below W.heap.size W w') := sDec x (by omega)
      have hSx := dec_size (n := x) (by omega)
      obtain ⟨S, hS⟩ : ∃ S : ByteArray, S = ⟨(decDigits x).toArray⟩ := ⟨_, rfl⟩
      rw [← hS] at HJ HID hSx
      have k0 : (0 : Int) ≤ (k : Int) := by omega
      have k1 : (k : Int) < (n : Int) := by omega
      obtain ⟨bs, hbs⟩ : ∃ bs, byteCells (jn ((R : Int) :: (C : Int) :: zs.take k)) = bs := ⟨_, rfl⟩
      rw [hbs] at HO HJ
      have hpb1 : pb < w1.heap.size := by omega
      have HPC : Hid (∀ W, Below w1.heap.size wr W → W.cell? ⟨pb, poff + k, none⟩ = some (.int .i64 (x : Int)) ∧ W.cell? ⟨w.heap.size, 2, none⟩ = some (.slice (some ⟨pb, poff, none⟩) n cp)) := fun W hW => ⟨(hW.cell (p := ⟨pb, poff + k, none⟩) hpb1).trans hx, (hW.cell (p := ⟨w.heap.size, 2, none⟩) hlt1).trans q2⟩
      clear hxv hxm hxb hpc hS hbs hBw
      go_wp2_with (at_builtin; refine wpList_append_ownM _ rfl _ _ 35 rfl w1.heap.size 5 i0 Tryd.underlying35 hi hiz hi1 hi2 _ _ _ rfl (HO.out.alloc _) hv ⟨wr.heap.size, 0, none⟩ 1 1 [.int .u8 32] rfl rfl (news8 wr _ _) (by simp [Value.oneCell']) (by unfold maxLen; omega) (by omega) (by simp; omega) ?_; intro v3 w3 hown3 hgrow3 hv3; have HO3 := Lib.hid hown3; have hb3 : Below w1.heap.size wr w3 := HO.out.below (by omega) hgrow3; have hz3 := hb3.size; obtain ⟨hx3, hq3⟩ := HPC.out w3 hb3; clear hown3 hgrow3)
      refine (HID.out _).mono ?_
      rintro e w4 ⟨rfl, hb4⟩
      have HO4 := Lib.hid (HO3.out.kept hb4)
      have hz4 := hb4.size
      have HB4 : Hid (Below w1.heap.size wr w4) := hb3.trans (hb4.mono (by omega))
      clear hb4 HO3 hx3 hq3 hx q_ q0 q1 q2
      go_wp2_with (at_builtin; refine wpList_append_own_stringM _ rfl _ _ 35 9 rfl w1.heap.size 5 i0 Tryd.underlying35 Tryd.underlying9 hi hiz hi1 hi2 _ _ _ rfl HO4.out hv3 S rfl (by unfold maxLen; omega) (by omega) (by omega) ?_; intro v5 w5 hown5 hgrow5 hv5; have HO5 := Lib.hid (hown5.ofJ HJ.out.symm (Nat.le_refl _)); have HB5 : Hid (Below w1.heap.size wr w5) := HB4.out.trans (HO4.out.below0 (by omega) hgrow5); clear hown5 hgrow5)
      go_roundw
      case rel => exact ⟨k + 1, _, by omega, by go_num, hv5, HO5.out, HB.out.trans HB5.out⟩
      case measure => simp [intOf]; omega
    · have hke : k = n := by omega
      subst hke
      have htk : zs.take k = zs := by rw [← HL.out]; exact List.take_length
      rw [htk] at HO
      have hcv := stringOf HO.out hv
      have HBF : Hid (Below w.heap.size w wr) := HB1.out.trans (HB.out.mono (by omega))
      clear hlt
      go_wp2
      go_returns
      exact ⟨by rw [HT.out]; rfl, HBF.out⟩
end Go.Proofs.YtcpicgcdefnhaaaDoor
