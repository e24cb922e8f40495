/-
  DERIVED. RowCells of both sides; a row read back.
-/
import Derived.Test.YtdpifddmhbeklaaPntI
import Derived.Test.YtdpifddmhbeklaaPatE
namespace Go.Proofs.Ytdpifddmhbeklaa
open Go.RowKit
set_option linter.unusedVariables false
theorem pat_read : ∀ i, i < 96 → valF (paint (PATS.getD i [])) ((i % 3 : Nat) : Int) = ((i / 3 : Nat) : Int) := by decide +kernel
theorem rowP_split (cl : Nat) (vs : List Int) : ∀ (d k : Nat), k + d = vs.length → ∃ rest, rowC cl vs = rowP cl vs k ++ rest ∧ (0 < d → ∃ r2, rest = paint (PATS.getD (3 * (vs.getD k 0).toNat + cl) []) ++ r2)
  | 0, k, h => ⟨paint [1, 1, 1, 1, 4], by rw [rowC, show k = vs.length by omega], fun h => absurd h (by omega)⟩
  | d + 1, k, h => by
    obtain ⟨rest, h1, _⟩ := rowP_split cl vs d (k + 1) (by omega)
    rw [rowP, List.append_assoc] at h1
    exact ⟨_, h1, fun _ => ⟨rest, rfl⟩⟩
theorem row_part {cl : Nat} {vs : List Int} {k : Nat} (hc : cl ≤ 2) (h : ∀ x ∈ vs, 0 ≤ x ∧ x ≤ 31) (hk : k < vs.length) : ((rowC cl vs).drop (7 + 11 * k)).take 11 = paint (PATS.getD (3 * (vs.getD k 0).toNat + cl) []) := by
  obtain ⟨rest, h1, h2⟩ := rowP_split cl vs (vs.length - k) k (by omega)
  obtain ⟨r2, rfl⟩ := h2 (by omega)
  have hv := h _ (getD_mem (zs := vs) (i := k) hk)
  have e1 := rowP_len cl vs hc h k (by omega)
  rw [h1, ← e1, List.drop_left, ← pat_paint_len (3 * (vs.getD k 0).toNat + cl) (by omega), List.take_left]
theorem row_val {cl : Nat} {vs : List Int} {k : Nat} (hc : cl ≤ 2) (h : ∀ x ∈ vs, 0 ≤ x ∧ x ≤ 31) (hk : k < vs.length) : valF (((rowC cl vs).drop (7 + 11 * k)).take 11) (cl : Int) = vs.getD k 0 := by
  rw [row_part hc h hk]
  have hv := h _ (getD_mem (zs := vs) (i := k) hk)
  have := pat_read (3 * (vs.getD k 0).toNat + cl) (by omega)
  rw [show (3 * (vs.getD k 0).toNat + cl) % 3 = cl by omega, show (3 * (vs.getD k 0).toNat + cl) / 3 = (vs.getD k 0).toNat by omega] at this
  rw [this]
  omega
theorem rowF_get (c : List Int) (cl : Int) : ∀ {n k : Nat}, k < n → (rowF c cl n).getD k 0 = valF ((c.drop (7 + 11 * k)).take 11) cl
  | n + 1, k, h => by
    rw [rowF]
    rcases Nat.lt_or_ge k n with h1 | h1
    · rw [List.getD_eq_getElem?_getD, List.getElem?_append_left (by rw [rowF_len]; exact h1), ← List.getD_eq_getElem?_getD]
      exact rowF_get c cl h1
    · obtain rfl : k = n := by omega
      rw [List.getD_eq_getElem?_getD, List.getElem?_append_right (by rw [rowF_len]; omega), rowF_len]
      simp
/-- A row is read back. -/
theorem row_back {cl : Nat} {vs : List Int} (hc : cl ≤ 2) (h : ∀ x ∈ vs, 0 ≤ x ∧ x ≤ 31) : rowF (rowC cl vs) (cl : Int) vs.length = vs := by
  apply List.ext_getElem
  · rw [rowF_len]
  · intro i h1 h2
    have e1 := rowF_get (rowC cl vs) (cl : Int) (n := vs.length) (k := i) h2
    rw [row_val hc h h2] at e1
    rw [List.getD_eq_getElem?_getD, List.getElem?_eq_getElem h1, List.getD_eq_getElem?_getD, List.getElem?_eq_getElem h2] at e1
    simpa using e1
/-- One cell is hurt: the other patterns' values are read. -/
theorem row_hurt {cl : Nat} {vs : List Int} {k p : Nat} (x : Int) (hc : cl ≤ 2) (h : ∀ x ∈ vs, 0 ≤ x ∧ x ≤ 31) (hk : k < vs.length) (hp : p < 7 + 11 * k ∨ 7 + 11 * k + 11 ≤ p) : (rowF ((rowC cl vs).set p x) (cl : Int) vs.length).getD k 0 = vs.getD k 0 := by
  rw [rowF_get _ _ hk, ← row_val hc h hk]
  congr 1
  apply List.ext_getElem?
  intro i
  rcases Nat.lt_or_ge i 11 with h1 | h1
  · rw [List.getElem?_take, List.getElem?_take, if_pos h1, if_pos h1, List.getElem?_drop, List.getElem?_drop, List.getElem?_set_ne (by omega)]
  · rw [List.getElem?_take, List.getElem?_take, if_neg (by omega), if_neg (by omega)]
theorem bar_bd (ws : List Int) (k : Nat) : ∀ x ∈ bar ws k, 0 ≤ x ∧ x ≤ 1 := fun x hx => by
  have := List.eq_of_mem_replicate hx
  omega
theorem paint_bd (ws : List Int) : ∀ x ∈ paint ws, 0 ≤ x ∧ x ≤ 1 := fun x hx => by
  unfold paint paintTo at hx
  obtain ⟨k, _, h2⟩ := List.mem_flatMap.1 hx
  exact bar_bd ws k x h2
theorem rowP_bd (cl : Nat) (vs : List Int) : ∀ k, ∀ x ∈ rowP cl vs k, 0 ≤ x ∧ x ≤ 1
  | 0, x, h => paint_bd _ x h
  | k + 1, x, h => by
    rw [rowP] at h
    rcases List.mem_append.1 h with h1 | h1
    · exact rowP_bd cl vs k x h1
    · exact paint_bd _ x h1
theorem rowC_bd (cl : Nat) (vs : List Int) : ∀ x ∈ rowC cl vs, 0 ≤ x ∧ x ≤ 1 := fun x h => by
  rw [rowC] at h
  rcases List.mem_append.1 h with h1 | h1
  · exact rowP_bd cl vs _ x h1
  · exact paint_bd _ x h1
set_option maxRecDepth 20000 in
theorem sRC_lim (cl : Int) (va : Option Addr) (vn vc : Nat) (w : World) (hn : vn ≤ 1048576) (hl : inB (vn : Int) 1 12 = false) : Calls Try.prog 30 #[.int .i64 cl, .slice va vn vc] w (ResI w [] 3) := by
  have HLi := Lib.hid hl
  clear hl
  go_enter Try.func30, Try.ntmps30
  go_wp2_with (go_at_call 55; with_reducible show Calls _ _ #[.int .i64 (vn : Int), .int .i64 1, .int .i64 12] _ _; refine (sIn _ _ _ _).mono ?_; rintro e w' ⟨rfl, rfl⟩; rw [HLi.out])
  go_returns
  exact ⟨none, 0, rfl, World.ownsRow_nil _ _ _ _, by repeat' (first | (with_reducible exact Below.refl _ _) | (with_reducible assumption) | (with_reducible refine Below.alloc ?_ ?_ _) | (with_reducible refine Below.setCell ?_ ?_ _) | (with_reducible refine Below.drew ?_) | (with_reducible refine below_drewN ?_ _) | (with_reducible refine below_via (by with_reducible assumption) ?_ ?_) | go_size), by simp⟩
set_option maxRecDepth 20000 in
set_option maxHeartbeats 4000000 in
theorem sRC_val (cl : Int) (va : Option Addr) (vn vc : Nat) (vs : List Int) (w : World) (hv : Rd w va vn vs) (hl : inB (vn : Int) 1 12 = true) (ha : vs.all (fun x => inB x 0 31) = false) : Calls Try.prog 30 #[.int .i64 cl, .slice va vn vc] w (ResI w [] 2) := by
  have HLi := Lib.hid hl
  have HV := Lib.hid hv
  have HVl := Lib.hid hv.1
  obtain ⟨vn1, vn12⟩ := inB_iff.1 hl
  have HAll := Lib.hid ha
  clear hl hv ha
  go_enter Try.func30, Try.ntmps30
  go_wp2_with (go_at_call 55; with_reducible show Calls _ _ #[.int .i64 (vn : Int), .int .i64 1, .int .i64 12] _ _; refine (sIn _ _ _ _).mono ?_; rintro e w' ⟨rfl, rfl⟩; rw [HLi.out])
  go_loop [6] (fun i => ∃ k : Nat, k ≤ vn ∧ i = .int .i64 k ∧ Hid (∀ j, j < k → inB (vs.getD j 0) 0 31 = true)) (fun i => vn - (intOf i).toNat)
  case atStart => exact ⟨0, Nat.zero_le _, rfl, fun j hj => absurd hj (by omega)⟩
  case round =>
    obtain ⟨k, hk, rfl, HA⟩ := hrel
    by_cases hlt : k < vn
    · obtain ⟨b, off, rfl, hbl, hc⟩ := HV.out.2 (by omega)
      have hx := hc k hlt
      clear hc
      obtain ⟨x, hxv⟩ : ∃ x, vs.getD k 0 = x := ⟨_, rfl⟩
      rw [hxv] at hx
      have HX := Lib.hid hxv
      have k0 : (0 : Int) ≤ (k : Int) := by omega
      have k1 : (k : Int) < (vn : Int) := by omega
      clear hxv
      cases hg : inB x 0 31
      · go_wp2_with (go_at_call 55; refine (sIn _ _ _ _).mono ?_; rintro e w' ⟨rfl, rfl⟩)
        go_returns
        exact ⟨none, 0, rfl, World.ownsRow_nil _ _ _ _, by repeat' (first | (with_reducible exact Below.refl _ _) | (with_reducible assumption) | (with_reducible refine Below.alloc ?_ ?_ _) | (with_reducible refine Below.setCell ?_ ?_ _) | (with_reducible refine Below.drew ?_) | (with_reducible refine below_drewN ?_ _) | (with_reducible refine below_via (by with_reducible assumption) ?_ ?_) | go_size), by simp⟩
      · have HA2 : Hid (∀ j, j < k + 1 → inB (vs.getD j 0) 0 31 = true) := fun j hj => by
          rcases Nat.lt_or_ge j k with h4 | h4
          · exact HA.out j h4
          · obtain rfl : j = k := by omega
            rw [HX.out]; exact hg
        go_wp2_with (go_at_call 55; refine (sIn _ _ _ _).mono ?_; rintro e w' ⟨rfl, rfl⟩)
        go_round
        case rel => exact ⟨k + 1, by omega, by go_num, HA2⟩
        case measure => simp [intOf]; omega
    · have hnk : (vn : Int) ≤ (k : Int) := by omega
      exact absurd (all_yes (zs := vs) (fun i hi => HA.out i (by have := HVl.out; omega))) (by rw [HAll.out]; decide)
set_option maxRecDepth 20000 in
set_option maxHeartbeats 4000000 in
theorem sRC_clu (cl : Int) (va : Option Addr) (vn vc : Nat) (vs : List Int) (w : World) (hv : Rd w va vn vs) (hl : inB (vn : Int) 1 12 = true) (ha : vs.all (fun x => inB x 0 31) = true) (hcl : inB cl 0 2 = false) : Calls Try.prog 30 #[.int .i64 cl, .slice va vn vc] w (ResI w [] 2) := by
  have HLi := Lib.hid hl
  have HV := Lib.hid hv
  have HVl := Lib.hid hv.1
  obtain ⟨vn1, vn12⟩ := inB_iff.1 hl
  have HAll : Hid (∀ x ∈ vs, inB x 0 31 = true) := fun x h2 => by rw [List.all_eq_true] at ha; exact ha x h2
  have HCl := Lib.hid hcl
  clear hl hv ha hcl
  go_enter Try.func30, Try.ntmps30
  go_wp2_with (go_at_call 55; with_reducible show Calls _ _ #[.int .i64 (vn : Int), .int .i64 1, .int .i64 12] _ _; refine (sIn _ _ _ _).mono ?_; rintro e w' ⟨rfl, rfl⟩; rw [HLi.out])
  go_loop [6] (fun i => ∃ k : Nat, k ≤ vn ∧ i = .int .i64 k ∧ Hid (∀ j, j < k → inB (vs.getD j 0) 0 31 = true)) (fun i => vn - (intOf i).toNat)
  case atStart => exact ⟨0, Nat.zero_le _, rfl, fun j hj => absurd hj (by omega)⟩
  case round =>
    obtain ⟨k, hk, rfl, HA⟩ := hrel
    by_cases hlt : k < vn
    · obtain ⟨b, off, rfl, hbl, hc⟩ := HV.out.2 (by omega)
      have hx := hc k hlt
      clear hc
      obtain ⟨x, hxv⟩ : ∃ x, vs.getD k 0 = x := ⟨_, rfl⟩
      rw [hxv] at hx
      have HX := Lib.hid hxv
      have k0 : (0 : Int) ≤ (k : Int) := by omega
      have k1 : (k : Int) < (vn : Int) := by omega
      clear hxv
      have hg : inB x 0 31 = true := by rw [← HX.out]; exact HAll.out _ (getD_mem (by rw [HVl.out]; exact hlt))
      have HA2 : Hid (∀ j, j < k + 1 → inB (vs.getD j 0) 0 31 = true) := fun j hj => by
        rcases Nat.lt_or_ge j k with h4 | h4
        · exact HA.out j h4
        · obtain rfl : j = k := by omega
          rw [HX.out]; exact hg
      go_wp2_with (go_at_call 55; refine (sIn _ _ _ _).mono ?_; rintro e w' ⟨rfl, rfl⟩)
      go_round
      case rel => exact ⟨k + 1, by omega, by go_num, HA2⟩
      case measure => simp [intOf]; omega
    · have hnk : (vn : Int) ≤ (k : Int) := by omega
      go_wp2_with (go_at_call 67; refine (sCluster _ _).mono ?_; rintro e w' ⟨rfl, rfl⟩; rw [HCl.out])
      go_returns
      exact ⟨none, 0, rfl, World.ownsRow_nil _ _ _ _, by repeat' (first | (with_reducible exact Below.refl _ _) | (with_reducible assumption) | (with_reducible refine Below.alloc ?_ ?_ _) | (with_reducible refine Below.setCell ?_ ?_ _) | (with_reducible refine Below.drew ?_) | (with_reducible refine below_drewN ?_ _) | (with_reducible refine below_via (by with_reducible assumption) ?_ ?_) | go_size), by simp⟩
set_option maxRecDepth 20000 in
set_option maxHeartbeats 4000000 in
theorem sRC_ok (cl : Nat) (va : Option Addr) (vn vc : Nat) (vs : List Int) (w : World) (hv : Rd w va vn vs) (hl : inB (vn : Int) 1 12 = true) (ha : vs.all (fun x => inB x 0 31) = true) (hcl : cl ≤ 2) : Calls Try.prog 30 #[.int .i64 (cl : Int), .slice va vn vc] w (ResI w (rowC cl vs) 0) := by
  have HLi := Lib.hid hl
  have HV := Lib.hid hv
  have HVl := Lib.hid hv.1
  obtain ⟨vn1, vn12⟩ := inB_iff.1 hl
  have HAll : Hid (∀ x ∈ vs, inB x 0 31 = true) := fun x h2 => by rw [List.all_eq_true] at ha; exact ha x h2
  have HBd : Hid (∀ x ∈ vs, 0 ≤ x ∧ x ≤ 31) := fun x h2 => inB_iff.1 (HAll.out x h2)
  have HLn : Hid ((rowC cl vs).length = 15 + 11 * vn) := by unfold Hid; rw [rowC_len hcl HBd.out, HVl.out]
  have HCl : Hid (inB (cl : Int) 0 2 = true) := inB_yes (by omega) (by omega)
  have HC2 := Lib.hid hcl
  clear hl hv ha hcl
  go_enter Try.func30, Try.ntmps30
  go_wp2_with (go_at_call 55; with_reducible show Calls _ _ #[.int .i64 (vn : Int), .int .i64 1, .int .i64 12] _ _; refine (sIn _ _ _ _).mono ?_; rintro e w' ⟨rfl, rfl⟩; rw [HLi.out])
  go_loop [6] (fun i => ∃ k : Nat, k ≤ vn ∧ i = .int .i64 k ∧ Hid (∀ j, j < k → inB (vs.getD j 0) 0 31 = true)) (fun i => vn - (intOf i).toNat)
  case atStart => exact ⟨0, Nat.zero_le _, rfl, fun j hj => absurd hj (by omega)⟩
  case round =>
    obtain ⟨k, hk, rfl, HA⟩ := hrel
    by_cases hlt : k < vn
    · obtain ⟨b, off, rfl, hbl, hc⟩ := HV.out.2 (by omega)
      have hx := hc k hlt
      clear hc
      obtain ⟨x, hxv⟩ : ∃ x, vs.getD k 0 = x := ⟨_, rfl⟩
      rw [hxv] at hx
      have HX := Lib.hid hxv
      have k0 : (0 : Int) ≤ (k : Int) := by omega
      have k1 : (k : Int) < (vn : Int) := by omega
      clear hxv
      have hg : inB x 0 31 = true := by rw [← HX.out]; exact HAll.out _ (getD_mem (by rw [HVl.out]; exact hlt))
      have HA2 : Hid (∀ j, j < k + 1 → inB (vs.getD j 0) 0 31 = true) := fun j hj => by
        rcases Nat.lt_or_ge j k with h4 | h4
        · exact HA.out j h4
        · obtain rfl : j = k := by omega
          rw [HX.out]; exact hg
      go_wp2_with (go_at_call 55; refine (sIn _ _ _ _).mono ?_; rintro e w' ⟨rfl, rfl⟩)
      go_round
      case rel => exact ⟨k + 1, by omega, by go_num, HA2⟩
      case measure => simp [intOf]; omega
    · have hnk : (vn : Int) ≤ (k : Int) := by omega
      go_wp2_with (go_at_call 67; refine (sCluster _ _).mono ?_; rintro e w' ⟨rfl, rfl⟩; rw [HCl.out])
      refine (sRowC cl va vn vc vs _ HC2.out HV.out (by omega) HBd.out).mono ?_
      rintro e w1 ⟨v, rfl, ho, hb1⟩
      obtain ⟨av, cv, rfl⟩ := ownN_shape ho
      have HO := Lib.hid ho
      have HB := Lib.hid hb1
      clear ho hb1
      go_wp2
      go_returns
      refine ⟨av, cv, by rw [HLn.out]; rfl, ?_, ?_, ?_⟩
      · rw [HLn.out]; exact HO.out
      · exact HB.out
      · rw [HLn.out]; omega
set_option maxRecDepth 20000 in
theorem iRC_lim (cl : Int) (va : Option Addr) (vn vc : Nat) (w : World) (hn : vn ≤ 1048576) (hl : inB (vn : Int) 1 12 = false) : Calls Try.prog 29 #[.int .i64 cl, .slice va vn vc] w (ResI w [] 3) := by
  have HLi := Lib.hid hl
  clear hl
  go_enter Try.func29, Try.ntmps29
  go_wp2_with (go_at_call 59; with_reducible show Calls _ _ #[.int .i64 (vn : Int), .int .i64 1, .int .i64 12] _ _; refine (iIn _ _ _ _).mono ?_; rintro e w' ⟨rfl, rfl⟩; rw [HLi.out])
  go_returns
  exact ⟨none, 0, rfl, World.ownsRow_nil _ _ _ _, by repeat' (first | (with_reducible exact Below.refl _ _) | (with_reducible assumption) | (with_reducible refine Below.alloc ?_ ?_ _) | (with_reducible refine Below.setCell ?_ ?_ _) | (with_reducible refine Below.drew ?_) | (with_reducible refine below_drewN ?_ _) | (with_reducible refine below_via (by with_reducible assumption) ?_ ?_) | go_size), by simp⟩
set_option maxRecDepth 20000 in
set_option maxHeartbeats 4000000 in
theorem iRC_val (cl : Int) (va : Option Addr) (vn vc : Nat) (vs : List Int) (w : World) (hv : Rd w va vn vs) (hl : inB (vn : Int) 1 12 = true) (ha : vs.all (fun x => inB x 0 31) = false) (hcl : inB cl 0 2 = true) : Calls Try.prog 29 #[.int .i64 cl, .slice va vn vc] w (ResI w [] 2) := by
  have HLi := Lib.hid hl
  have HV := Lib.hid hv
  have HVl := Lib.hid hv.1
  obtain ⟨vn1, vn12⟩ := inB_iff.1 hl
  have HAll := Lib.hid ha
  have HCl := Lib.hid hcl
  clear hl hv ha hcl
  go_enter Try.func29, Try.ntmps29
  go_wp2_with (first | (go_at_call 59; with_reducible show Calls _ _ #[.int .i64 (vn : Int), .int .i64 1, .int .i64 12] _ _; refine (iIn _ _ _ _).mono ?_; rintro e w' ⟨rfl, rfl⟩; rw [HLi.out]) | (go_at_call 59; with_reducible show Calls _ _ #[.int .i64 cl, .int .i64 0, .int .i64 2] _ _; refine (iIn _ _ _ _).mono ?_; rintro e w' ⟨rfl, rfl⟩; rw [HCl.out]))
  go_loop [17] (fun i => ∃ k : Nat, k ≤ vn ∧ i = .int .i64 k ∧ Hid (∀ j, j < k → inB (vs.getD j 0) 0 31 = true)) (fun i => vn - (intOf i).toNat)
  case atStart => exact ⟨0, Nat.zero_le _, rfl, fun j hj => absurd hj (by omega)⟩
  case round =>
    obtain ⟨k, hk, rfl, HA⟩ := hrel
    by_cases hlt : k < vn
    · obtain ⟨b, off, rfl, hbl, hc⟩ := HV.out.2 (by omega)
      have hx := hc k hlt
      clear hc
      obtain ⟨x, hxv⟩ : ∃ x, vs.getD k 0 = x := ⟨_, rfl⟩
      rw [hxv] at hx
      have HX := Lib.hid hxv
      have k0 : (0 : Int) ≤ (k : Int) := by omega
      have k1 : (k : Int) < (vn : Int) := by omega
      clear hxv
      cases hg : inB x 0 31
      · go_wp2_with (go_at_call 59; refine (iIn _ _ _ _).mono ?_; rintro e w' ⟨rfl, rfl⟩)
        go_returns
        exact ⟨none, 0, rfl, World.ownsRow_nil _ _ _ _, by repeat' (first | (with_reducible exact Below.refl _ _) | (with_reducible assumption) | (with_reducible refine Below.alloc ?_ ?_ _) | (with_reducible refine Below.setCell ?_ ?_ _) | (with_reducible refine Below.drew ?_) | (with_reducible refine below_drewN ?_ _) | (with_reducible refine below_via (by with_reducible assumption) ?_ ?_) | go_size), by simp⟩
      · have HA2 : Hid (∀ j, j < k + 1 → inB (vs.getD j 0) 0 31 = true) := fun j hj => by
          rcases Nat.lt_or_ge j k with h4 | h4
          · exact HA.out j h4
          · obtain rfl : j = k := by omega
            rw [HX.out]; exact hg
        go_wp2_with (go_at_call 59; refine (iIn _ _ _ _).mono ?_; rintro e w' ⟨rfl, rfl⟩)
        go_round
        case rel => exact ⟨k + 1, by omega, by go_num, HA2⟩
        case measure => simp [intOf]; omega
    · have hnk : (vn : Int) ≤ (k : Int) := by omega
      exact absurd (all_yes (zs := vs) (fun i hi => HA.out i (by have := HVl.out; omega))) (by rw [HAll.out]; decide)
set_option maxRecDepth 20000 in
set_option maxHeartbeats 4000000 in
theorem iRC_clu (cl : Int) (va : Option Addr) (vn vc : Nat) (vs : List Int) (w : World) (hv : Rd w va vn vs) (hl : inB (vn : Int) 1 12 = true) (hcl : inB cl 0 2 = false) : Calls Try.prog 29 #[.int .i64 cl, .slice va vn vc] w (ResI w [] 2) := by
  have HLi := Lib.hid hl
  have HV := Lib.hid hv
  have HVl := Lib.hid hv.1
  obtain ⟨vn1, vn12⟩ := inB_iff.1 hl
  have HCl := Lib.hid hcl
  clear hl hv hcl
  go_enter Try.func29, Try.ntmps29
  go_wp2_with (first | (go_at_call 59; with_reducible show Calls _ _ #[.int .i64 (vn : Int), .int .i64 1, .int .i64 12] _ _; refine (iIn _ _ _ _).mono ?_; rintro e w' ⟨rfl, rfl⟩; rw [HLi.out]) | (go_at_call 59; with_reducible show Calls _ _ #[.int .i64 cl, .int .i64 0, .int .i64 2] _ _; refine (iIn _ _ _ _).mono ?_; rintro e w' ⟨rfl, rfl⟩; rw [HCl.out]))
  go_returns
  exact ⟨none, 0, rfl, World.ownsRow_nil _ _ _ _, by repeat' (first | (with_reducible exact Below.refl _ _) | (with_reducible assumption) | (with_reducible refine Below.alloc ?_ ?_ _) | (with_reducible refine Below.setCell ?_ ?_ _) | (with_reducible refine Below.drew ?_) | (with_reducible refine below_drewN ?_ _) | (with_reducible refine below_via (by with_reducible assumption) ?_ ?_) | go_size), by simp⟩
set_option maxRecDepth 20000 in
set_option maxHeartbeats 4000000 in
theorem iRC_ok (cl : Nat) (va : Option Addr) (vn vc : Nat) (vs : List Int) (w : World) (hv : Rd w va vn vs) (hl : inB (vn : Int) 1 12 = true) (ha : vs.all (fun x => inB x 0 31) = true) (hcl : cl ≤ 2) : Calls Try.prog 29 #[.int .i64 (cl : Int), .slice va vn vc] w (ResI w (rowC cl vs) 0) := by
  have HLi := Lib.hid hl
  have HV := Lib.hid hv
  have HVl := Lib.hid hv.1
  obtain ⟨vn1, vn12⟩ := inB_iff.1 hl
  have HAll : Hid (∀ x ∈ vs, inB x 0 31 = true) := fun x h2 => by rw [List.all_eq_true] at ha; exact ha x h2
  have HBd : Hid (∀ x ∈ vs, 0 ≤ x ∧ x ≤ 31) := fun x h2 => inB_iff.1 (HAll.out x h2)
  have HLn : Hid ((rowC cl vs).length = 15 + 11 * vn) := by unfold Hid; rw [rowC_len hcl HBd.out, HVl.out]
  have HCl : Hid (inB (cl : Int) 0 2 = true) := inB_yes (by omega) (by omega)
  have HC2 := Lib.hid hcl
  clear hl hv ha hcl
  go_enter Try.func29, Try.ntmps29
  go_wp2_with (first | (go_at_call 59; with_reducible show Calls _ _ #[.int .i64 (vn : Int), .int .i64 1, .int .i64 12] _ _; refine (iIn _ _ _ _).mono ?_; rintro e w' ⟨rfl, rfl⟩; rw [HLi.out]) | (go_at_call 59; with_reducible show Calls _ _ #[.int .i64 (cl : Int), .int .i64 0, .int .i64 2] _ _; refine (iIn _ _ _ _).mono ?_; rintro e w' ⟨rfl, rfl⟩; rw [HCl.out]))
  go_loop [17] (fun i => ∃ k : Nat, k ≤ vn ∧ i = .int .i64 k ∧ Hid (∀ j, j < k → inB (vs.getD j 0) 0 31 = true)) (fun i => vn - (intOf i).toNat)
  case atStart => exact ⟨0, Nat.zero_le _, rfl, fun j hj => absurd hj (by omega)⟩
  case round =>
    obtain ⟨k, hk, rfl, HA⟩ := hrel
    by_cases hlt : k < vn
    · obtain ⟨b, off, rfl, hbl, hc⟩ := HV.out.2 (by omega)
      have hx := hc k hlt
      clear hc
      obtain ⟨x, hxv⟩ : ∃ x, vs.getD k 0 = x := ⟨_, rfl⟩
      rw [hxv] at hx
      have HX := Lib.hid hxv
      have k0 : (0 : Int) ≤ (k : Int) := by omega
      have k1 : (k : Int) < (vn : Int) := by omega
      clear hxv
      have hg : inB x 0 31 = true := by rw [← HX.out]; exact HAll.out _ (getD_mem (by rw [HVl.out]; exact hlt))
      have HA2 : Hid (∀ j, j < k + 1 → inB (vs.getD j 0) 0 31 = true) := fun j hj => by
        rcases Nat.lt_or_ge j k with h4 | h4
        · exact HA.out j h4
        · obtain rfl : j = k := by omega
          rw [HX.out]; exact hg
      go_wp2_with (go_at_call 59; refine (iIn _ _ _ _).mono ?_; rintro e w' ⟨rfl, rfl⟩)
      go_round
      case rel => exact ⟨k + 1, by omega, by go_num, HA2⟩
      case measure => simp [intOf]; omega
    · have hnk : (vn : Int) ≤ (k : Int) := by omega
      go_wp2_with fail
      refine (iAll _).mono ?_
      rintro e w0 ⟨aa, ac, rfl, hr, hb0⟩
      have HR := Lib.hid hr
      have HB0 := Lib.hid hb0
      clear hr hb0
      go_wp2_with fail
      refine (iRowC aa ac w.heap.size cl va vn vc vs _ HR.out HC2.out (HV.out.below HB0.out) (by omega) HBd.out).mono ?_
      rintro e w1 ⟨v, rfl, ho, hb1⟩
      obtain ⟨av, cv, rfl⟩ := ownN_shape ho
      have HO := Lib.hid ho
      have HB := Lib.hid hb1
      clear ho hb1
      go_wp2
      go_returns
      refine ⟨av, cv, by rw [HLn.out]; rfl, ?_, ?_, ?_⟩
      · rw [HLn.out]; exact ownN_mono HO.out HB0.out.size
      · exact HB0.out.trans (HB.out.mono HB0.out.size)
      · rw [HLn.out]; omega
end Go.Proofs.Ytdpifddmhbeklaa
