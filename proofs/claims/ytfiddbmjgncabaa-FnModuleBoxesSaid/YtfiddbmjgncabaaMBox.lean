/-
  DERIVED. Boxes of modules: the plain laws of FnModuleBoxes.
-/
import Derived.Test.YtfiddbmjgncabaaCPrintG
import Derived.Test.YtfiddbmjgncabaaPrI
import Derived.Test.YtfiddbmjgncabaaPix
import Derived.Test.YtfiddbmjgncabaaTurn4
namespace Go.Proofs.Ytfiddbmjgncabaa
open Go.RowKit
set_option linter.unusedVariables false
theorem bleed_of_print' {p t q b d l : Int} (h : printB p t q b d l = true) : 1 - p ≤ b ∧ b ≤ p - 1 ∧ 0 ≤ d ∧ d < l ∧ l ≤ 255 := by
  simp only [printB, Bool.and_eq_true, inB_iff, decide_eq_true_eq] at h
  omega
theorem w64_nat {n : Nat} (h : n ≤ 1000000) : wrap64 (n : Int) = (n : Int) := by unfold wrap64; omega
/-- Without bleed, a pixel of a module's box is dark just where the module is. -/
theorem px_mod {R C p t q : Nat} {zs : List Int} {k i j : Nat} (hk : k < R * C) (hi : i < t) (hj : j < p) :
    pxB (R : Int) (C : Int) zs (p : Int) (t : Int) (q : Int) 0 (((k / C + q) * t + i : Nat) : Int) (((k % C + q) * p + j : Nat) : Int) = (zs.getD k 0 == 1) := by
  have hC : 0 < C := by
    rcases Nat.eq_zero_or_pos C with h | h
    · subst h; simp at hk
    · exact h
  have hr : k / C < R := Nat.div_lt_of_lt_mul (by rw [Nat.mul_comm]; exact hk)
  have hc : k % C < C := Nat.mod_lt _ hC
  have e1 : Int.tdiv (((k / C + q) * t + i : Nat) : Int) (t : Int) = ((((k / C + q) * t + i) / t : Nat) : Int) := rfl
  have e2 : Int.tdiv (((k % C + q) * p + j : Nat) : Int) (p : Int) = ((((k % C + q) * p + j) / p : Nat) : Int) := rfl
  have e3 : Int.tmod (((k % C + q) * p + j : Nat) : Int) (p : Int) = ((((k % C + q) * p + j) % p : Nat) : Int) := rfl
  rw [div_row hi] at e1
  rw [div_row hj] at e2
  rw [mod_row hj] at e3
  have hd : darkB (R : Int) (C : Int) zs ((k / C : Nat) : Int) ((k % C : Nat) : Int) = (zs.getD k 0 == 1) := by
    have a1 : (0 : Int) ≤ ((k / C : Nat) : Int) := Int.natCast_nonneg _
    have a2 : (0 : Int) ≤ ((k % C : Nat) : Int) := Int.natCast_nonneg _
    have a3 : ((k / C : Nat) : Int) < (R : Int) := Int.ofNat_lt.2 hr
    have a4 : ((k % C : Nat) : Int) < (C : Int) := Int.ofNat_lt.2 hc
    refine darkB_in (inB_yes a1 (by omega)) (inB_yes a2 (by omega)) ?_
    rw [pixV_nat, Nat.div_add_mod']
  unfold pxB
  rw [e1, e2, e3]
  rw [show ((k / C + q : Nat) : Int) - (q : Int) = ((k / C : Nat) : Int) by omega, show ((k % C + q : Nat) : Int) - (q : Int) = ((k % C : Nat) : Int) by omega, hd]
  cases hz : (zs.getD k 0 == 1)
  · rw [if_neg (by simp)]
    rw [decide_eq_false (by omega), Bool.false_and]
  · rw [if_pos rfl]
    rw [decide_eq_true (show ((j : Nat) : Int) < (p : Int) + 0 by omega), Bool.or_true]
theorem side_nat {R q t : Nat} (h1 : R ≤ 400) (h2 : q ≤ 16) (h3 : t ≤ 12) : sideV (R : Int) (q : Int) (t : Int) = (((R + 2 * q) * t : Nat) : Int) := by
  unfold sideV
  have hm : (R + 2 * q) * t ≤ 432 * 12 := Nat.mul_le_mul (by omega) h3
  rw [show ((R : Int) + 2 * (q : Int)) * (t : Int) = (((R + 2 * q) * t : Nat) : Int) by simp]
  exact w64_nat (by omega)
theorem box_nat {r q t : Nat} (h1 : r ≤ 400) (h2 : q ≤ 16) (h3 : t ≤ 12) : wrap64 (((r : Int) + (q : Int)) * (t : Int)) = (((r + q) * t : Nat) : Int) := by
  have hm : (r + q) * t ≤ 416 * 12 := Nat.mul_le_mul (by omega) h3
  rw [show ((r : Int) + (q : Int)) * (t : Int) = (((r + q) * t : Nat) : Int) by simp]
  exact w64_nat (by omega)
/-- What the walk needs of a print that came about. -/
def BoxOk (R C p t q d l TR TC : Int) (n : Nat) (zs L : List Int) : Prop := ∃ Cn : Nat, C = (Cn : Int) ∧ 1 ≤ Cn ∧ 1 ≤ n ∧ Cn ≤ 400 ∧ n ≤ 40000 ∧ 1 ≤ p ∧ p ≤ 12 ∧ 1 ≤ t ∧ t ≤ 12 ∧ ∀ (k : Nat) (i j : Int), k < n → 0 ≤ i → i < t → 0 ≤ j → j < p →
  ∃ y0 x0 : Int, selI (boxB p t q 0 d l ((k / Cn : Nat) : Int) ((k % Cn : Nat) : Int)) (wrap64 ((((k / Cn : Nat) : Int) + q) * t)) 0 = y0 ∧ selI (boxB p t q 0 d l ((k / Cn : Nat) : Int) ((k % Cn : Nat) : Int)) (wrap64 ((((k % Cn : Nat) : Int) + q) * p)) 0 = x0 ∧
    selI (boxB p t q 0 d l ((k / Cn : Nat) : Int) ((k % Cn : Nat) : Int)) t 0 = t ∧ selI (boxB p t q 0 d l ((k / Cn : Nat) : Int) ((k % Cn : Nat) : Int)) p 0 = p ∧ boxE p t q 0 d l ((k / Cn : Nat) : Int) ((k % Cn : Nat) : Int) = 0 ∧ 0 ≤ y0 ∧ y0 ≤ 10000 ∧ 0 ≤ x0 ∧ x0 ≤ 10000 ∧
    pixE TR TC L.length L (y0 + i) (x0 + j) = 0 ∧ (pixO TR TC L.length L (y0 + i) (x0 + j) == d) = (zs.getD k 0 == 1)
theorem box_ok {R C p t q d l : Int} {T1 T2 n : Nat} {zs : List Int} (hg : gridB R C n zs = true) (hp : printB p t q 0 d l = true) (hB : psB p t q 0 d l R C = true) (hT1 : sideV R q t = (T1 : Int)) (hT2 : sideV C q p = (T2 : Int)) :
    BoxOk R C p t q d l (T1 : Int) (T2 : Int) n zs (rastL T2 (prtV R C zs p t q 0 d l) (T1 * T2)) := by
  obtain ⟨p1, p2, t1, t2, q1, q2⟩ := quiet_of_print hp
  obtain ⟨-, -, d1, d2, d3⟩ := bleed_of_print' hp
  obtain ⟨-, -, -, -, g5, g6, g7, -⟩ := gridB_yes hg
  have hin : (inB R 1 400 = true ∧ inB C 1 400 = true) ∧ sizeB (sideV R q t) (sideV C q p) = true := by
    unfold psB at hB
    rw [hp] at hB
    simp only [Bool.true_and, Bool.and_eq_true] at hB
    exact hB
  have n1 := inB_iff.1 hin.1.1
  have n2 := inB_iff.1 hin.1.2
  have hsz := hin.2
  obtain ⟨Rn, rfl⟩ := Int.eq_ofNat_of_zero_le (show 0 ≤ R by omega)
  obtain ⟨Cn, rfl⟩ := Int.eq_ofNat_of_zero_le (show 0 ≤ C by omega)
  obtain ⟨pn, rfl⟩ := Int.eq_ofNat_of_zero_le (show 0 ≤ p by omega)
  obtain ⟨tn, rfl⟩ := Int.eq_ofNat_of_zero_le (show 0 ≤ t by omega)
  obtain ⟨qn, rfl⟩ := Int.eq_ofNat_of_zero_le q1
  rw [hT1, hT2] at hsz
  rw [side_nat (by omega) (by omega) (by omega)] at hT1 hT2
  have hT1' : (Rn + 2 * qn) * tn = T1 := by exact_mod_cast hT1
  have hT2' : (Cn + 2 * qn) * pn = T2 := by exact_mod_cast hT2
  have hnn : n = Rn * Cn := by exact_mod_cast g7
  refine ⟨Cn, rfl, by omega, by omega, by omega, by omega, by omega, by omega, by omega, by omega, ?_⟩
  intro k i j hk i1 i2 j1 j2
  obtain ⟨im, rfl⟩ := Int.eq_ofNat_of_zero_le i1
  obtain ⟨jm, rfl⟩ := Int.eq_ofNat_of_zero_le j1
  have hkr : k < Rn * Cn := by omega
  have hr : k / Cn < Rn := Nat.div_lt_of_lt_mul (by rw [Nat.mul_comm]; exact hkr)
  have hc : k % Cn < Cn := Nat.mod_lt _ (by omega)
  have hpx := fun (i1 : im < tn) (j1 : jm < pn) => px_mod (R := Rn) (C := Cn) (p := pn) (t := tn) (q := qn) (zs := zs) (k := k) (i := im) (j := jm) hkr i1 j1
  have hpx := hpx (by omega) (by omega)
  generalize k / Cn = kr at hr hpx ⊢
  generalize k % Cn = kc at hc hpx ⊢
  have hbx : boxB (pn : Int) (tn : Int) (qn : Int) 0 d l ((kr : Nat) : Int) ((kc : Nat) : Int) = true := by
    unfold boxB
    rw [hp, inB_yes (by omega) (by omega), inB_yes (by omega) (by omega)]
    rfl
  have hbe : boxE (pn : Int) (tn : Int) (qn : Int) 0 d l ((kr : Nat) : Int) ((kc : Nat) : Int) = 0 := by
    unfold boxE
    rw [hp, inB_yes (by omega) (by omega), inB_yes (by omega) (by omega)]
    rfl
  rw [hbx, hbe, box_nat (by omega) (by omega) (by omega), box_nat (by omega) (by omega) (by omega)]
  have m1 : (kr + qn) * tn ≤ 416 * 12 := Nat.mul_le_mul (by omega) (by omega)
  have m2 : (kc + qn) * pn ≤ 416 * 12 := Nat.mul_le_mul (by omega) (by omega)
  refine ⟨_, _, rfl, rfl, rfl, rfl, rfl, by simp only [selI_true]; omega, by simp only [selI_true]; omega, by simp only [selI_true]; omega, by simp only [selI_true]; omega, ?_⟩
  simp only [selI_true]
  have hy : (kr + qn) * tn + im < T1 := by rw [← hT1']; exact row_lt (by omega) (by omega)
  have hx : (kc + qn) * pn + jm < T2 := by rw [← hT2']; exact row_lt (by omega) (by omega)
  rw [show (((kr + qn) * tn : Nat) : Int) + (im : Int) = (((kr + qn) * tn + im : Nat) : Int) by omega, show (((kc + qn) * pn : Nat) : Int) + (jm : Int) = (((kc + qn) * pn + jm : Nat) : Int) by omega]
  generalize (kr + qn) * tn + im = y at hy hpx ⊢
  generalize (kc + qn) * pn + jm = x at hx hpx ⊢
  have hrb : rasterB (T1 : Int) (T2 : Int) (rastL T2 (prtV (Rn : Int) (Cn : Int) zs (pn : Int) (tn : Int) (qn : Int) 0 d l) (T1 * T2)).length (rastL T2 (prtV (Rn : Int) (Cn : Int) zs (pn : Int) (tn : Int) (qn : Int) 0 d l) (T1 * T2)) = true := by
    unfold rasterB
    rw [hsz, rastL_length]
    simp only [Bool.true_and, Bool.and_eq_true, decide_eq_true_eq, List.all_eq_true]
    refine ⟨by simp, ?_⟩
    intro v hv
    unfold rastL at hv
    rw [List.mem_map] at hv
    obtain ⟨m, -, rfl⟩ := hv
    unfold prtV
    refine inB_yes ?_ ?_ <;> split <;> omega
  have hii : (inB (y : Int) 0 ((T1 : Int) - 1) && inB (x : Int) 0 ((T2 : Int) - 1)) = true := by
    rw [inB_yes (by omega) (by omega), inB_yes (by omega) (by omega)]
    rfl
  constructor
  · unfold pixE
    rw [hrb, hii]
    rfl
  · unfold pixO
    rw [hrb, hii, Bool.true_and, selI_true, pixV_nat, rastL_getD _ _ _ _ (row_lt hy hx), div_row hx, mod_row hx]
    unfold prtV
    rw [hpx]
    cases (zs.getD k 0 == 1)
    · rw [if_neg (by simp)]
      simp; omega
    · rw [if_pos rfl]
      simp
theorem prt_code {R C p t q d l : Int} {n : Nat} {zs : List Int} (hn : n ≤ 1048576) : ∃ (TR TC code : Int) (L : List Int),
    (∀ (a : Option Addr) (cp : Nat) (w : World), Rd w a n zs → Calls Try.prog 25 #[.agg #[.int .i64 R, .int .i64 C, .slice a n cp], .agg #[.int .i64 p, .int .i64 t, .int .i64 q, .int .i64 0, .int .i64 d, .int .i64 l]] w (ResG w TR TC L code)) ∧
    (∀ (a : Option Addr) (cp : Nat) (w : World), Rd w a n zs → Calls Try.prog 23 #[.agg #[.int .i64 R, .int .i64 C, .slice a n cp], .agg #[.int .i64 p, .int .i64 t, .int .i64 q, .int .i64 0, .int .i64 d, .int .i64 l]] w (ResG w TR TC L code)) ∧
    ((1 ≤ code ∧ code ≤ 5) ∨ (code = 0 ∧ BoxOk R C p t q d l TR TC n zs L)) := by
  rcases hg : gridB R C n zs with _ | _
  · exact ⟨0, 0, 1, [], fun a cp W h => iPrG_no1 _ _ a _ cp _ _ _ _ _ _ _ W h hn hg, fun a cp W h => sPrG_no1 _ _ a _ cp _ _ _ _ _ _ _ W h hn hg, .inl (by omega)⟩
  rcases hp : printB p t q 0 d l with _ | _
  · exact ⟨0, 0, 1, [], fun a cp W h => iPrG_no2 _ _ a _ cp _ _ _ _ _ _ _ W h hn hg hp, fun a cp W h => sPrG_no2 _ _ a _ cp _ _ _ _ _ _ _ W h hn hg hp, .inl (by omega)⟩
  rcases hk : knB zs with _ | _
  · exact ⟨0, 0, 5, [], fun a cp W h => iPrG_kn _ _ a _ cp _ _ _ _ _ _ _ W h hn hg hp hk, fun a cp W h => sPrG_kn _ _ a _ cp _ _ _ _ _ _ _ W h hn hg hp hk, .inl (by omega)⟩
  rcases psE_cases p t q 0 d l R C with ⟨hB, hE | hE | hE⟩ | ⟨hB, hE⟩
  · exact ⟨0, 0, 1, [], fun a cp W h => iPrG_ps1 _ _ a _ cp _ _ _ _ _ _ _ W h hn hg hp hk hE _ _ rfl rfl, fun a cp W h => sPrG_ps1 _ _ a _ cp _ _ _ _ _ _ _ W h hn hg hp hk hE _ _ rfl rfl, .inl (by omega)⟩
  · exact ⟨0, 0, 2, [], fun a cp W h => iPrG_ps2 _ _ a _ cp _ _ _ _ _ _ _ W h hn hg hp hk hE _ _ rfl rfl, fun a cp W h => sPrG_ps2 _ _ a _ cp _ _ _ _ _ _ _ W h hn hg hp hk hE _ _ rfl rfl, .inl (by omega)⟩
  · exact ⟨0, 0, 3, [], fun a cp W h => iPrG_ps3 _ _ a _ cp _ _ _ _ _ _ _ W h hn hg hp hk hE _ _ rfl rfl, fun a cp W h => sPrG_ps3 _ _ a _ cp _ _ _ _ _ _ _ W h hn hg hp hk hE _ _ rfl rfl, .inl (by omega)⟩
  have h1 : selI (psB p t q 0 d l R C) (sideV R q t) 0 = sideV R q t := by rw [hB]; rfl
  have h2 : selI (psB p t q 0 d l R C) (sideV C q p) 0 = sideV C q p := by rw [hB]; rfl
  obtain ⟨p1, p2, t1, t2, q1, q2⟩ := quiet_of_print hp
  have hin : (inB R 1 400 = true ∧ inB C 1 400 = true) ∧ sizeB (sideV R q t) (sideV C q p) = true := by
    have hB' := hB
    unfold psB at hB'
    rw [hp] at hB'
    simp only [Bool.true_and, Bool.and_eq_true] at hB'
    exact hB'
  have n1 := inB_iff.1 hin.1.1
  have n2 := inB_iff.1 hin.1.2
  obtain ⟨z1, z2, z3, z4, -⟩ := sizeB_yes hin.2
  obtain ⟨T1, hT1⟩ := Int.eq_ofNat_of_zero_le (show 0 ≤ sideV R q t by omega)
  obtain ⟨T2, hT2⟩ := Int.eq_ofNat_of_zero_le (show 0 ≤ sideV C q p by omega)
  have h1 := h1.trans hT1
  have h2 := h2.trans hT2
  exact ⟨(T1 : Int), (T2 : Int), 0, _, fun a cp W h => iPrG_ok T1 T2 _ _ _ _ _ _ _ _ a _ cp _ W h hn hg hp hk hE h1 h2 (by omega) (by omega) p1 p2 t1 t2 q1 q2 (by omega) (by omega) (by omega) (by omega) (by omega) (by omega),
    fun a cp W h => sPrG_ok T1 T2 _ _ _ _ _ _ _ _ a _ cp _ W h hn hg hp hk hE h1 h2 (by omega) (by omega) p1 p2 t1 t2 q1 q2 (by omega) (by omega) (by omega) (by omega) (by omega) (by omega), .inr ⟨rfl, box_ok hg hp hB hT1 hT2⟩⟩
end Go.Proofs.Ytfiddbmjgncabaa
