/-
  DERIVED. THE ROOT OF A SMALL WHOLE NUMBER, AS A FLOAT, IS A SMALL FLOAT THAT IS NOT BELOW NOUGHT.
-/
import Derived.Test.YtdbecdgiafjkfaaKit
import Derived.Laws.FloatArith
import Derived.Laws.Cover2
namespace Go.Proofs.Ytdbecdgiafjkfaa
set_option linter.unusedVariables false
set_option maxRecDepth 4000

theorem shl_mul (a k : Nat) : a <<< k = a * 2 ^ k := Nat.shiftLeft_eq a k

/-- the word of a rung, read: a normal number that is not below nought. -/
theorem read_rung (R : Nat) (h1 : 2 ^ 52 ≤ R) (h2 : R < 2047 * 2 ^ 52) :
    Ieee.double.read R = .number false (2 ^ 52 + R % 2 ^ 52) (-1074 + (R / 2 ^ 52 - 1 : Nat)) := by
  have hs : R < 2 ^ 63 := by omega
  have hd : R / 2 ^ 63 = 0 := Nat.div_eq_of_lt hs
  have hm : R % 2 ^ 63 = R := Nat.mod_eq_of_lt hs
  unfold Ieee.Format.read
  have e1 : Ieee.double.signWeight = 2 ^ 63 := by decide
  have e2 : Ieee.double.binade = 2 ^ 52 := by decide
  have e3 : Ieee.double.infRung = 2047 * 2 ^ 52 := by decide
  have e4 : Ieee.double.leastPlace = -1074 := by decide
  simp only [e1, e2, e3, e4, hd, hm]
  rw [if_neg (by omega), if_pos h2]
  rfl

theorem rootFrom_lt (n todo root : Nat) : Ieee.Datum.rootFrom n todo root < root + 2 ^ todo := by
  induction todo generalizing root with
  | zero => simp [Ieee.Datum.rootFrom]
  | succ t ih =>
    unfold Ieee.Datum.rootFrom
    dsimp only
    have hp : 2 ^ (t + 1) = 2 ^ t + 2 ^ t := by rw [Nat.pow_succ]; omega
    have hq : 0 < 2 ^ t := Nat.two_pow_pos _
    split
    · have := ih (root + 1 <<< t)
      rw [shl_mul, Nat.one_mul] at this ⊢
      omega
    · have := ih root
      omega

theorem log2_le {n k : Nat} (h : n < 2 ^ (k + 1)) : n.log2 ≤ k := by
  rcases Nat.eq_zero_or_pos n with rfl | hn
  · simp
  · have := (Nat.log2_lt (by omega)).2 h
    omega

/-- a whole number below 2^53 that is cut even after a shift that leaves 53 digits. -/
theorem kept_le (n l : Nat) (hn : n < 2 ^ (l + 1)) (hl : l = n.log2) (last : Int) (p : Int) (he : last = p + l - 52) :
    Ieee.Toward.even.cut false (n <<< (p - last).toNat) (last - p).toNat ≤ 2 ^ 53 := by
  unfold Ieee.Toward.cut
  dsimp only
  by_cases hc : l ≤ 52
  · have h1 : (last - p).toNat = 0 := by omega
    have h2 : (p - last).toNat = 52 - l := by omega
    rw [h1, h2]
    simp only [Nat.zero_min, shl_mul, Nat.pow_zero, Nat.mul_one, Nat.div_one, Nat.mod_one]
    have : n * 2 ^ (52 - l) < 2 ^ (l + 1) * 2 ^ (52 - l) := Nat.mul_lt_mul_of_pos_right hn (Nat.two_pow_pos _)
    rw [← Nat.pow_add] at this
    have e : l + 1 + (52 - l) = 53 := by omega
    rw [e] at this
    simp
    omega
  · have h1 : (last - p).toNat = l - 52 := by omega
    have h2 : (p - last).toNat = 0 := by omega
    rw [h1, h2]
    have hmin : min (l - 52) ((n <<< 0).log2 + 2) = l - 52 := by
      simp only [Nat.shiftLeft_zero]; rw [← hl]; omega
    rw [hmin]
    simp only [shl_mul, Nat.one_mul, Nat.pow_zero, Nat.mul_one]
    have e : 2 ^ (l + 1) = 2 ^ (l - 52) * 2 ^ 53 := by rw [← Nat.pow_add]; congr 1; omega
    have hd : n / 2 ^ (l - 52) < 2 ^ 53 := by
      rw [Nat.div_lt_iff_lt_mul (Nat.two_pow_pos _), Nat.mul_comm, ← e]; exact hn
    refine Nat.le_trans (Nat.add_le_add_left (Bool.toNat_le _) _) ?_
    omega

theorem rung_bd (B t kept : Nat) (hB : 0 < B) (ht : t ≤ 1035) (ht0 : 1 ≤ t) (hk : kept ≤ 2 * B) : B ≤ min (t * B + kept) (2047 * B) ∧ min (t * B + kept) (2047 * B) ≤ 1037 * B := by
  have a1 : t * B ≤ 1035 * B := Nat.mul_le_mul_right _ ht
  have a2 : 1 * B ≤ t * B := Nat.mul_le_mul_right _ ht0
  rw [Nat.min_eq_left (by omega)]
  omega
/-- a number of at most 56 digits at a low place, written: a rung between. -/
theorem near_rung (M : Nat) (p : Int) (hM0 : M ≠ 0) (hM : M < 2 ^ 56) (hp1 : -56 ≤ p) (hp2 : p ≤ -42) :
    2 ^ 52 ≤ Ieee.double.nearest false M p ∧ Ieee.double.nearest false M p ≤ 1037 * 2 ^ 52 := by
  have hlog : M.log2 ≤ 55 := log2_le hM
  have hlt : M < 2 ^ (M.log2 + 1) := Nat.lt_log2_self
  clear hM
  unfold Ieee.Format.nearest
  have e1 : Ieee.double.fractionBits = 52 := rfl
  have e2 : Ieee.double.binade = 2 ^ 52 := by decide
  have e3 : Ieee.double.infRung = 2047 * 2 ^ 52 := by decide
  have e4 : Ieee.double.leastPlace = -1074 := by decide
  rw [if_neg hM0]
  simp only [e1, e2, e3, e4]
  have hmax : max (p + (M.log2 : Int) - (52 : Nat)) (-1074) = p + M.log2 - 52 := by omega
  rw [hmax]
  have hk := kept_le M M.log2 hlt rfl (p + M.log2 - 52) p rfl
  generalize Ieee.Toward.even.cut _ _ _ = kept at hk ⊢
  have ht : (p + (M.log2 : Int) - 52 - -1074).toNat ≤ 1035 := by omega
  have ht0 : 1 ≤ (p + (M.log2 : Int) - 52 - -1074).toNat := by omega
  generalize (p + (M.log2 : Int) - 52 - -1074).toNat = t at ht ht0 ⊢
  have hB : 2 ^ 53 = 2 * 2 ^ 52 := by decide
  rw [hB] at hk
  clear hmax hlog hlt hp1 hp2 e1 e2 e3 e4 hB
  unfold Ieee.Format.word
  rw [if_neg (by decide)]
  exact rung_bd (2 ^ 52) t kept (Nat.two_pow_pos _) ht ht0 hk

/-- a small whole number in 53 digits. -/
theorem norm_bd (n L : Nat) (hL : L ≤ 26) (hge : 2 ^ L ≤ n) (hlt : n < 2 ^ (L + 1)) : 2 ^ 52 ≤ n * 2 ^ (52 - L) ∧ n * 2 ^ (52 - L) < 2 ^ 53 := by
  constructor
  · have : 2 ^ L * 2 ^ (52 - L) ≤ n * 2 ^ (52 - L) := Nat.mul_le_mul_right _ hge
    rw [← Nat.pow_add] at this
    have e : L + (52 - L) = 52 := by omega
    rwa [e] at this
  · have : n * 2 ^ (52 - L) < 2 ^ (L + 1) * 2 ^ (52 - L) := Nat.mul_lt_mul_of_pos_right hlt (Nat.two_pow_pos _)
    rw [← Nat.pow_add] at this
    have e : L + 1 + (52 - L) = 53 := by omega
    rwa [e] at this
theorem rung_min (B L K : Nat) (hL : L ≤ 26) (hK : K < 2 * B) (hK1 : B ≤ K) : min ((L + 1022) * B + K) (2047 * B) = (L + 1022) * B + K ∧ B ≤ (L + 1022) * B + K ∧ (L + 1022) * B + K < 2047 * B := by
  have a1 : (L + 1022) * B ≤ 1048 * B := Nat.mul_le_mul_right _ (by omega)
  have a2 : 1022 * B ≤ (L + 1022) * B := Nat.mul_le_mul_right _ (by omega)
  refine ⟨Nat.min_eq_left (by omega), by omega, by omega⟩
theorem rung_parts (B L K : Nat) (hB : 0 < B) (hK1 : B ≤ K) (hK : K < 2 * B) : B + ((L + 1022) * B + K) % B = K ∧ ((L + 1022) * B + K) / B = L + 1023 := by
  obtain ⟨k, rfl⟩ : ∃ k, K = B + k := ⟨K - B, by omega⟩
  have hk : k < B := by omega
  have e : (L + 1022) * B + (B + k) = k + (L + 1023) * B := by rw [show L + 1023 = L + 1022 + 1 from rfl, Nat.add_mul (L + 1022) 1 B, Nat.one_mul]; omega
  rw [e, Nat.add_mul_mod_self_right, Nat.mod_eq_of_lt hk, Nat.add_mul_div_right _ _ hB, Nat.div_eq_of_lt hk]
  omega
theorem word_small (n L : Nat) (h0 : 0 < n) (hl : n.log2 = L) (hL : L ≤ 26) (hge : 2 ^ L ≤ n) (hlt : n < 2 ^ (L + 1)) : Ieee.double.nearest false n 0 = (L + 1022) * 2 ^ 52 + n * 2 ^ (52 - L) := by
  obtain ⟨hK1, hK⟩ := norm_bd n L hL hge hlt
  unfold Ieee.Format.nearest
  have e1 : Ieee.double.fractionBits = 52 := rfl
  have e2 : Ieee.double.binade = 2 ^ 52 := by decide
  have e3 : Ieee.double.infRung = 2047 * 2 ^ 52 := by decide
  have e4 : Ieee.double.leastPlace = -1074 := by decide
  rw [if_neg (by omega)]
  simp only [e1, e2, e3, e4, hl]
  have hmax : max (0 + (L : Int) - (52 : Nat)) (-1074) = L - 52 := by omega
  rw [hmax]
  have t1 : (0 - ((L : Int) - 52)).toNat = 52 - L := by omega
  have t2 : ((L : Int) - 52 - 0).toNat = 0 := by omega
  have t3 : ((L : Int) - 52 - -1074).toNat = L + 1022 := by omega
  rw [t1, t2, t3]
  clear hmax t1 t2 t3 e1 e2 e3 e4
  unfold Ieee.Toward.cut Ieee.Format.word
  rw [if_neg (by decide)]
  simp only [Nat.zero_min, shl_mul, Nat.pow_zero, Nat.mul_one, Nat.div_one, Nat.mod_one, Nat.mul_zero]
  have hb : (decide (1 < 0) || (1 == 0 && n * 2 ^ (52 - L) % 2 == 1)).toNat = 0 := rfl
  rw [hb, Nat.add_zero]
  exact (rung_min (2 ^ 52) L (n * 2 ^ (52 - L)) hL (by rw [show 2 * 2 ^ 52 = 2 ^ 53 from by decide]; exact hK) hK1).1
theorem read_small (L K : Nat) (hL : L ≤ 26) (hK1 : 2 ^ 52 ≤ K) (hK : K < 2 ^ 53) : Ieee.double.read ((L + 1022) * 2 ^ 52 + K) = .number false K (L - 52) := by
  rw [show 2 ^ 53 = 2 * 2 ^ 52 from by decide] at hK
  obtain ⟨_, a, b⟩ := rung_min (2 ^ 52) L K hL hK hK1
  obtain ⟨c, d⟩ := rung_parts (2 ^ 52) L K (Nat.two_pow_pos _) hK1 hK
  have e : (-1074 + ((L + 1023 - 1 : Nat) : Int)) = (L : Int) - 52 := by omega
  rw [read_rung _ a b, c, d, e]
theorem log_norm {K : Nat} (hK1 : 2 ^ 52 ≤ K) (hK : K < 2 ^ 53) : K.log2 = 52 := by
  have h0 : K ≠ 0 := by have := Nat.two_pow_pos 52; intro e; rw [e] at hK1; exact absurd hK1 (by decide)
  have a : K.log2 ≤ 52 := log2_le hK
  have b : 52 ≤ K.log2 := (Nat.le_log2 h0).2 hK1
  omega
theorem shl_lt (K m : Nat) (hK : K < 2 ^ 53) (hm : m ≤ 57) : K <<< m < 2 ^ (109 + 1) := by
  rw [shl_mul]
  have a : 2 ^ m ≤ 2 ^ 57 := Nat.pow_le_pow_right (by decide) hm
  have b : K * 2 ^ m ≤ K * 2 ^ 57 := Nat.mul_le_mul_left _ a
  have c : K * 2 ^ 57 < 2 ^ 53 * 2 ^ 57 := Nat.mul_lt_mul_of_pos_right hK (Nat.two_pow_pos _)
  rw [← Nat.pow_add] at c
  exact Nat.lt_of_le_of_lt b c
theorem root_small_datum (L K : Nat) (hL : L ≤ 26) (hK1 : 2 ^ 52 ≤ K) (hK : K < 2 ^ 53) :
    ∃ M p, Ieee.Datum.root (Ieee.double.fractionBits + 2) (.number false K (L - 52)) = some (.number false M p) ∧ M ≠ 0 ∧ M < 2 ^ 56 ∧ -56 ≤ p ∧ p ≤ -42 := by
  have hklog := log_norm hK1 hK
  have hK0 : K ≠ 0 := by intro e; rw [e] at hK1; exact absurd hK1 (by decide)
  unfold Ieee.Datum.root
  have e1 : Ieee.double.fractionBits = 52 := rfl
  simp only [e1, hklog]
  rw [if_neg hK0, if_neg (by decide)]
  have e5 : (2 * (52 + 2) - 52 : Nat) = 56 := rfl
  rw [e5]
  obtain ⟨b, hb, hb2⟩ : ∃ b : Nat, (((L : Int) - 52 - ((56 : Nat) : Int)) % 2).toNat = b ∧ b ≤ 1 := ⟨_, rfl, by omega⟩
  rw [hb]
  clear hb e5 e1 hklog
  have hm2 : 56 + b ≤ 57 := by omega
  have hm1 : 56 ≤ 56 + b := by omega
  generalize 56 + b = more at hm1 hm2 ⊢
  have hsh := shl_lt K more hK hm2
  have hlo : (K <<< more).log2 ≤ 109 := log2_le hsh
  have hr := rootFrom_lt (K <<< more) ((K <<< more).log2 / 2 + 1) 0
  have hpw : 2 ^ ((K <<< more).log2 / 2 + 1) ≤ 2 ^ 55 := Nat.pow_le_pow_right (by decide) (by omega)
  have hpos : K <<< more ≠ 0 := by
    rw [shl_mul]
    exact Nat.ne_of_gt (Nat.mul_pos (by omega) (Nat.two_pow_pos _))
  generalize Ieee.Datum.rootFrom (K <<< more) ((K <<< more).log2 / 2 + 1) 0 = whole at hr ⊢
  have hw : whole < 2 ^ 55 := Nat.lt_of_lt_of_le (by simpa using hr) hpw
  clear hr hpw hlo hsh
  generalize K <<< more = N at hpos ⊢
  refine ⟨_, _, rfl, ?_, ?_, by omega, by omega⟩
  · by_cases hz : whole = 0
    · have hne : (whole * whole != N) = true := by rw [hz]; simpa using fun e => hpos e.symm
      rw [hne, hz]
      decide
    · omega
  · have hb := Bool.toNat_le (whole * whole != N)
    generalize (whole * whole != N).toNat = q at hb ⊢
    have e6 : 2 ^ 56 = 2 * 2 ^ 55 := by decide
    rw [e6]
    generalize 2 ^ 55 = B at hw ⊢
    omega
theorem div_bd (m g : Nat) (hm : m < 2 ^ 53) (hg : 38 ≤ g) : m / 2 ^ g ≤ 32768 := by
  have hpw : 2 ^ 38 ≤ 2 ^ g := Nat.pow_le_pow_right (by decide) hg
  have h1 := Nat.div_le_div_left hpw (Nat.two_pow_pos 38) (a := m)
  have h2 : m / 2 ^ 38 < 2 ^ 15 := by
    rw [Nat.div_lt_iff_lt_mul (Nat.two_pow_pos _), ← Nat.pow_add]
    exact hm
  have h3 : 2 ^ 15 ≤ 32768 := by decide
  exact Nat.le_trans h1 (Nat.le_of_lt (Nat.lt_of_lt_of_le h2 h3))
theorem rung_place (R : Nat) (h2 : R ≤ 1037 * 2 ^ 52) : R / 2 ^ 52 ≤ 1037 := by
  rw [Nat.div_le_iff_le_mul_add_pred (Nat.two_pow_pos _), Nat.mul_comm]
  exact Nat.le_trans h2 (Nat.le_add_right _ _)
theorem int_small (R : Nat) (h1 : 2 ^ 52 ≤ R) (h2 : R ≤ 1037 * 2 ^ 52) : ∃ c : Nat, (FloatKind.f64.decode R).toInt .zero = some (c : Int) ∧ c ≤ 32768 := by
  have hlt : R < 2047 * 2 ^ 52 := Nat.lt_of_le_of_lt h2 (by decide)
  have hd : FloatKind.f64.decode R = .number false (2 ^ 52 + R % 2 ^ 52) (-1074 + (R / 2 ^ 52 - 1 : Nat)) := read_rung R h1 hlt
  rw [hd]
  have hp := rung_place R h2
  have hm : R % 2 ^ 52 < 2 ^ 52 := Nat.mod_lt _ (Nat.two_pow_pos _)
  have hm1 : 2 ^ 52 ≤ 2 ^ 52 + R % 2 ^ 52 := Nat.le_add_right _ _
  have hm2 : 2 ^ 52 + R % 2 ^ 52 < 2 ^ 53 := by
    rw [show 2 ^ 53 = 2 ^ 52 + 2 ^ 52 from by decide]
    exact Nat.add_lt_add_left hm _
  have hi : (-1074 + ((R / 2 ^ 52 - 1 : Nat) : Int)) ≤ -38 := by
    generalize R / 2 ^ 52 = q at hp ⊢
    omega
  clear hd h1 h2 hlt hm hp
  generalize 2 ^ 52 + R % 2 ^ 52 = m at hm1 hm2 ⊢
  generalize (-1074 + ((R / 2 ^ 52 - 1 : Nat) : Int)) = i at hi ⊢
  have hml := log_norm hm1 hm2
  have hi0 : i.toNat = 0 := by omega
  refine ⟨m / 1 <<< min (-i).toNat (52 + 2), ?_, ?_⟩
  · unfold Ieee.Datum.toInt Ieee.Datum.integral Ieee.Toward.cut Ieee.signed
    simp [hi0, hml]
  · rw [shl_mul, Nat.one_mul]
    exact div_bd m _ hm2 (Nat.le_min.2 ⟨by omega, by decide⟩)

/-- the root of a small whole number. -/
theorem sqrt_small (n : Nat) (hn : n < 2 ^ 27) : ∃ r m, FloatKind.f64.format.sqrt (floatOfInt .f64 (n : Int)) = some r ∧ floatToIntVal .f64 r .i64 = some m ∧ 0 ≤ m ∧ m ≤ 32768 := by
  rcases Nat.eq_zero_or_pos n with rfl | h0
  · exact ⟨0, 0, by decide +kernel, by decide +kernel, by decide, by decide⟩
  have hL : n.log2 ≤ 26 := log2_le hn
  have hlt : n < 2 ^ (n.log2 + 1) := Nat.lt_log2_self
  have hge : 2 ^ n.log2 ≤ n := Nat.log2_self_le (by omega)
  generalize hl : n.log2 = L at hL hlt hge
  obtain ⟨hK1, hK⟩ := norm_bd n L hL hge hlt
  have hw := word_small n L h0 hl hL hge hlt
  have hread := read_small L _ hL hK1 hK
  obtain ⟨M, p, hroot, hM0, hM, hp1, hp2⟩ := root_small_datum L _ hL hK1 hK
  obtain ⟨hR1, hR2⟩ := near_rung M p hM0 hM hp1 hp2
  obtain ⟨c, hc, hcb⟩ := int_small _ hR1 hR2
  have hx : floatOfInt .f64 (n : Int) = (L + 1022) * 2 ^ 52 + n * 2 ^ (52 - L) := by
    rw [← hw]
    show Ieee.double.nearest _ _ _ = _
    have hneg : decide ((n : Int) < 0) = false := by simp
    rw [hneg, Int.natAbs_natCast]
  refine ⟨Ieee.double.nearest false M p, c, ?_, ?_, by omega, by omega⟩
  · show ((Ieee.double.read (floatOfInt .f64 (n : Int))).root (Ieee.double.fractionBits + 2)).map Ieee.double.write = _
    rw [hx, hread, hroot]
    rfl
  · unfold floatToIntVal
    rw [hc]
    have a : IntKind.i64.min = -9223372036854775808 := by decide
    have b : IntKind.i64.max = 9223372036854775807 := by decide
    have hmin : IntKind.i64.min ≤ (c : Int) ∧ (c : Int) ≤ IntKind.i64.max := by
      rw [a, b]
      omega
    exact if_pos hmin

end Go.Proofs.Ytdbecdgiafjkfaa
