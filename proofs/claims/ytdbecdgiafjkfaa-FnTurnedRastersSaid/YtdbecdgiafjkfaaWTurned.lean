/-
  DERIVED. The walk of FnTurnedRasters.
-/
import Derived.Test.YtdbecdgiafjkfaaDTurnR
import Derived.Test.YtdbecdgiafjkfaaTurnP
import Derived.Test.YtdbecdgiafjkfaaHist2
import Derived.Test.YtdbecdgiafjkfaaLike
import Derived.Test.YtdbecdgiafjkfaaRast2
import Derived.Deep.Cut
import Derived.Deep.DeepFit
import Derived.Deep.RegionHeld3
namespace Go.Proofs.Ytdbecdgiafjkfaa
open Go.RowKit
set_option linter.unusedVariables false
theorem box3_only {w w' : World} {b g : Nat} {x y z : Value} (h : Box3 w b x y z) (hg : w.grownBy w' (some g)) (hne : b ≠ g) : Box3 w' b x y z := h.grown hg (fun k e => by injection e with e; omega)
theorem frz3_new (w : World) (t : TypeId) (x y z : Value) : ∀ i, i < 3 → (w.alloc (.cells #[x, y, z] t)).frozen? ⟨w.heap.size, i, none⟩ = false := by
  intro i hi
  rcases i with _ | _ | _ | i
  · simp [go_sem]
  · simp [go_sem]
  · simp [go_sem]
  · omega
theorem iHist256 (r c : Int) (a : Option Addr) (n cp : Nat) (zs : List Int) (w : World) (h : Rd w a n zs) (hn : n ≤ 1048576) (hr : rasterB r c n zs = true) :
    Calls Try.prog 41 #[.agg #[.int .i64 r, .int .i64 c, .slice a n cp]] w fun e w' => ∃ a' cp', e = .returned (.tuple #[.slice a' 256 cp', .int .i64 0]) ∧ Rd w' a' 256 (histP zs n) ∧ Below w.heap.size w w' ∧ ∀ b off, a' = some ⟨b, off, none⟩ → w.heap.size ≤ b := by
  refine (iHistogram_ok r c a n cp zs w h hn hr).mono ?_
  rintro e w' ⟨a', cp', rfl, ho, hb, _⟩
  have hl := histP_length zs n
  rw [hl] at ho ⊢
  exact ⟨a', cp', rfl, own_rd ho, hb, own_fresh ho (by omega)⟩
theorem rd_far {w w' : World} {g n : Nat} {a : Option Addr} {zs : List Int} (h : Rd w a n zs) (hg : w.grownBy w' (some g)) (hf : ∀ b off, a = some ⟨b, off, none⟩ → 0 < n → b ≠ g) : Rd w' a n zs := rd_nxt h hg hf
set_option maxRecDepth 100000 in
set_option maxHeartbeats 8000000 in
theorem walk_FnTurnedRasters (code_a : Option Addr) (code_n code_c : Nat) (code_z : List Int) (w : World) (h_code : Ints .u8 w code_a code_n code_c code_z) :
    Calls Try.prog 9 #[.slice code_a code_n code_c] w fun e w' => e = .returned (.bool true) ∧ Below w.heap.size w w' := by
  obtain ⟨i0, hi, iz0, iz1, iz2⟩ := info_parts infoInt
  have hmx := h_code.max
  have HBY := Lib.hid h_code.bytes
  clear h_code
  by_cases hbig : 4096 < code_n
  · have tb : decide ((4096 : Int) < (code_n : Int)) = true := by simp; omega
    go_enter Try.func9, Try.ntmps9
    go_wp2_with fail
    refine (lBig _ _ _ _ hmx).mono ?_
    rintro e w' ⟨rfl, rfl⟩
    rw [tb]
    go_wp2
    go_returns
    exact ⟨rfl, by repeat' (first | (with_reducible exact Below.refl _ _) | (with_reducible assumption) | (with_reducible refine Below.alloc ?_ ?_ _) | (with_reducible refine Below.setCell ?_ ?_ _) | (with_reducible refine Below.drew ?_) | (with_reducible refine below_drewN ?_ _) | (with_reducible refine below_via (by with_reducible assumption) ?_ ?_) | go_size)⟩
  have tb : decide ((4096 : Int) < (code_n : Int)) = false := by simp; omega
  go_enter Try.func9, Try.ntmps9
  go_wp2_with fail
  refine (lBig _ _ _ _ hmx).mono ?_
  rintro e w' ⟨rfl, rfl⟩
  rw [tb]
  go_wp2_with fail
  refine (dTurnR _ _ _ _ HBY.out (by omega)).mono ?_
  rintro e w1 ⟨r, c, a, n, cp, zs, rfl, hnw, hcw, hrd, hb1, hfr⟩
  have hz1 := hb1.size
  have hlen := hrd.1
  have hn : n ≤ 1048576 := by omega
  obtain ⟨R, C, code, L, hI, hS, hcode⟩ := turn_code (r := r) (c := c) hn hlen
  have HRd := Lib.hid hrd
  have HI := Lib.hid hI
  have HS := Lib.hid hS
  have HCO := Lib.hid hcode
  have HLN := Lib.hid hlen
  clear hrd hI hS hcode hlen HBY tb
  have b3 := Lib.hid (Box3.new w1 26 (.int .i64 r) (.int .i64 c) (.slice a n cp))
  go_wp2_with fail
  refine (HI.out _ _ _ (HRd.out.below (by repeat' (first | (with_reducible exact Below.refl _ _) | (with_reducible assumption) | (with_reducible refine Below.alloc ?_ ?_ _) | (with_reducible refine Below.setCell ?_ ?_ _) | (with_reducible refine Below.drew ?_) | (with_reducible refine below_drewN ?_ _) | (with_reducible refine below_via (by with_reducible assumption) ?_ ?_) | go_size)))).mono ?_
  rintro e w2 ⟨a2, c2, rfl, ho2, hb2, hn2⟩
  have hz2 := hb2.size; try simp at hz2
  obtain ⟨_, _, _, _⟩ := (b3.out.keep (by repeat' (first | (with_reducible exact Below.refl _ _) | (with_reducible assumption) | (with_reducible refine Below.alloc ?_ ?_ _) | (with_reducible refine Below.setCell ?_ ?_ _) | (with_reducible refine Below.drew ?_) | (with_reducible refine below_drewN ?_ _) | (with_reducible refine below_via (by with_reducible assumption) ?_ ?_) | go_size)) : Box3 w2 _ _ _ _)
  have b4 := Lib.hid (Box3.new w2 26 (.int .i64 R) (.int .i64 C) (.slice a2 L.length c2))
  have f4 := Lib.hid (frz3_new w2 26 (.int .i64 R) (.int .i64 C) (.slice a2 L.length c2))
  have HO2 := Lib.hid ho2
  clear ho2
  go_wp2_with fail
  refine (HS.out _ _ _ (HRd.out.below (by repeat' (first | (with_reducible exact Below.refl _ _) | (with_reducible assumption) | (with_reducible refine Below.alloc ?_ ?_ _) | (with_reducible refine Below.setCell ?_ ?_ _) | (with_reducible refine Below.drew ?_) | (with_reducible refine below_drewN ?_ _) | (with_reducible refine below_via (by with_reducible assumption) ?_ ?_) | go_size)))).mono ?_
  rintro e w3 ⟨a3, c3, rfl, ho3, hb3, hn3⟩
  have hz3 := hb3.size; try simp at hz3
  have HO3 := Lib.hid ho3
  clear ho3
  go_wp2_with fail
  obtain ⟨W3, hW3⟩ : ∃ W3 : World, W3 = w3.alloc (.cells #[.int .i64 R, .int .i64 C, .slice a3 L.length c3] 26) := ⟨_, rfl⟩
  have hB : Below w1.heap.size w1 W3 := by rw [hW3]; repeat' (first | (with_reducible exact Below.refl _ _) | (with_reducible assumption) | (with_reducible refine Below.alloc ?_ ?_ _) | (with_reducible refine Below.setCell ?_ ?_ _) | (with_reducible refine Below.drew ?_) | (with_reducible refine below_drewN ?_ _) | (with_reducible refine below_via (by with_reducible assumption) ?_ ?_) | go_size)
  have hz4 : W3.heap.size = w3.heap.size + 1 := by rw [hW3]; simp
  have hz34 : w1.heap.size < w2.heap.size ∧ w2.heap.size < w3.heap.size := by omega
  have k3 := Lib.hid (b3.out.keep (by rw [hW3]; repeat' (first | (with_reducible exact Below.refl _ _) | (with_reducible assumption) | (with_reducible refine Below.alloc ?_ ?_ _) | (with_reducible refine Below.setCell ?_ ?_ _) | (with_reducible refine Below.drew ?_) | (with_reducible refine below_drewN ?_ _) | (with_reducible refine below_via (by with_reducible assumption) ?_ ?_) | go_size)) : Box3 W3 w1.heap.size _ _ _)
  have k4 := Lib.hid (b4.out.keep (by rw [hW3]; repeat' (first | (with_reducible exact Below.refl _ _) | (with_reducible assumption) | (with_reducible refine Below.alloc ?_ ?_ _) | (with_reducible refine Below.setCell ?_ ?_ _) | (with_reducible refine Below.drew ?_) | (with_reducible refine below_drewN ?_ _) | (with_reducible refine below_via (by with_reducible assumption) ?_ ?_) | go_size)) : Box3 W3 w2.heap.size _ _ _)
  have k6 := Lib.hid (by rw [hW3]; exact Box3.new w3 26 _ _ _ : Box3 W3 w3.heap.size (.int .i64 R) (.int .i64 C) (.slice a3 L.length c3))
  have p2 : Hid (Rd W3 a2 L.length L) := (own_rd HO2.out).below (by rw [hW3]; repeat' (first | (with_reducible exact Below.refl _ _) | (with_reducible assumption) | (with_reducible refine Below.alloc ?_ ?_ _) | (with_reducible refine Below.setCell ?_ ?_ _) | (with_reducible refine Below.drew ?_) | (with_reducible refine below_drewN ?_ _) | (with_reducible refine below_via (by with_reducible assumption) ?_ ?_) | go_size))
  have p3 : Hid (Rd W3 a3 L.length L) := (own_rd HO3.out).below (by rw [hW3]; repeat' (first | (with_reducible exact Below.refl _ _) | (with_reducible assumption) | (with_reducible refine Below.alloc ?_ ?_ _) | (with_reducible refine Below.setCell ?_ ?_ _) | (with_reducible refine Below.drew ?_) | (with_reducible refine below_drewN ?_ _) | (with_reducible refine below_via (by with_reducible assumption) ?_ ?_) | go_size))
  have p1 : Hid (Rd W3 a n zs) := HRd.out.below hB
  have q2 : Hid (∀ b off, a2 = some ⟨b, off, none⟩ → 0 < L.length → b < w2.heap.size) := (own_rd HO2.out).lt
  have g4 : Hid (∀ i, i < 3 → W3.frozen? ⟨w2.heap.size, i, none⟩ = false) := by
    intro i hi
    have e : Below (w2.heap.size + 1) (w2.alloc (.cells #[.int .i64 R, .int .i64 C, .slice a2 L.length c2] 26)) W3 := by rw [hW3]; repeat' (first | (with_reducible exact Below.refl _ _) | (with_reducible assumption) | (with_reducible refine Below.alloc ?_ ?_ _) | (with_reducible refine Below.setCell ?_ ?_ _) | (with_reducible refine Below.drew ?_) | (with_reducible refine below_drewN ?_ _) | (with_reducible refine below_via (by with_reducible assumption) ?_ ?_) | go_size)
    rw [e.frozen (p := ⟨w2.heap.size, i, none⟩) (by simp)]
    exact f4.out i hi
  rw [← hW3]
  clear hW3 b3 b4 f4 HO2 HO3 hb2 hb3
  have hk3 := k3.out
  have hk4 := k4.out
  have hk6 := k6.out
  obtain ⟨_, _, _, _⟩ := hk3
  obtain ⟨_, _, _, _⟩ := hk4
  obtain ⟨_, _, _, _⟩ := hk6
  have HSW : Hid (∀ w', Below W3.heap.size W3 w' → Below W3.heap.size W3 w' ∧ w1.heap.size < w'.heap.size ∧ w2.heap.size < w'.heap.size ∧ w3.heap.size < w'.heap.size ∧ w'.cell? ⟨w1.heap.size, 0, none⟩ = some (.int .i64 r) ∧ w'.cell? ⟨w1.heap.size, 1, none⟩ = some (.int .i64 c) ∧ w'.cell? ⟨w1.heap.size, 2, none⟩ = some (.slice a n cp) ∧ w'.cell? ⟨w2.heap.size, 0, none⟩ = some (.int .i64 R) ∧ w'.cell? ⟨w2.heap.size, 1, none⟩ = some (.int .i64 C) ∧ w'.cell? ⟨w2.heap.size, 2, none⟩ = some (.slice a2 L.length c2) ∧ w'.cell? ⟨w3.heap.size, 0, none⟩ = some (.int .i64 R) ∧ w'.cell? ⟨w3.heap.size, 1, none⟩ = some (.int .i64 C) ∧ w'.cell? ⟨w3.heap.size, 2, none⟩ = some (.slice a3 L.length c3)) := fun w' h => ⟨h, Nat.lt_of_lt_of_le (by assumption) h.size, Nat.lt_of_lt_of_le (by assumption) h.size, Nat.lt_of_lt_of_le (by assumption) h.size, (h.cell (p := ⟨_, _, none⟩) (by assumption)).trans (by assumption), (h.cell (p := ⟨_, _, none⟩) (by assumption)).trans (by assumption), (h.cell (p := ⟨_, _, none⟩) (by assumption)).trans (by assumption), (h.cell (p := ⟨_, _, none⟩) (by assumption)).trans (by assumption), (h.cell (p := ⟨_, _, none⟩) (by assumption)).trans (by assumption), (h.cell (p := ⟨_, _, none⟩) (by assumption)).trans (by assumption), (h.cell (p := ⟨_, _, none⟩) (by assumption)).trans (by assumption), (h.cell (p := ⟨_, _, none⟩) (by assumption)).trans (by assumption), (h.cell (p := ⟨_, _, none⟩) (by assumption)).trans (by assumption)⟩
  go_cut [44] from 15 (fun t wx => t = .bool false ∧ Hid (Below W3.heap.size W3 wx))
  case first =>
    go_region_held3 (fun w' => Below W3.heap.size W3 w' ∧ w1.heap.size < w'.heap.size ∧ w2.heap.size < w'.heap.size ∧ w3.heap.size < w'.heap.size ∧ w'.cell? ⟨w1.heap.size, 0, none⟩ = some (.int .i64 r) ∧ w'.cell? ⟨w1.heap.size, 1, none⟩ = some (.int .i64 c) ∧ w'.cell? ⟨w1.heap.size, 2, none⟩ = some (.slice a n cp) ∧ w'.cell? ⟨w2.heap.size, 0, none⟩ = some (.int .i64 R) ∧ w'.cell? ⟨w2.heap.size, 1, none⟩ = some (.int .i64 C) ∧ w'.cell? ⟨w2.heap.size, 2, none⟩ = some (.slice a2 L.length c2) ∧ w'.cell? ⟨w3.heap.size, 0, none⟩ = some (.int .i64 R) ∧ w'.cell? ⟨w3.heap.size, 1, none⟩ = some (.int .i64 C) ∧ w'.cell? ⟨w3.heap.size, 2, none⟩ = some (.slice a3 L.length c3)) (exact HSW.out _ (by repeat' (first | (with_reducible exact Below.refl _ _) | (with_reducible assumption) | (with_reducible refine Below.alloc ?_ ?_ _) | (with_reducible refine Below.setCell ?_ ?_ _) | (with_reducible refine Below.drew ?_) | (with_reducible refine below_drewN ?_ _) | (with_reducible refine below_via (by with_reducible assumption) ?_ ?_) | go_size))) (first | (go_at_call 34; refine (lLikeR R C _ _ _ _ _ _ L _ (p2.out.below (by repeat' (first | (with_reducible exact Below.refl _ _) | (with_reducible assumption) | (with_reducible refine Below.alloc ?_ ?_ _) | (with_reducible refine Below.setCell ?_ ?_ _) | (with_reducible refine Below.drew ?_) | (with_reducible refine below_drewN ?_ _) | (with_reducible refine below_via (by with_reducible assumption) ?_ ?_) | go_size))) (p3.out.below (by repeat' (first | (with_reducible exact Below.refl _ _) | (with_reducible assumption) | (with_reducible refine Below.alloc ?_ ?_ _) | (with_reducible refine Below.setCell ?_ ?_ _) | (with_reducible refine Below.drew ?_) | (with_reducible refine below_drewN ?_ _) | (with_reducible refine below_via (by with_reducible assumption) ?_ ?_) | go_size))) hn2).mono ?_; rintro e w' ⟨rfl, hbq⟩; have hzq := hbq.size; (try simp at hzq)) | (go_at_call 39; refine (iIsRaster r c a n cp zs _ (p1.out.below (by repeat' (first | (with_reducible exact Below.refl _ _) | (with_reducible assumption) | (with_reducible refine Below.alloc ?_ ?_ _) | (with_reducible refine Below.setCell ?_ ?_ _) | (with_reducible refine Below.drew ?_) | (with_reducible refine below_drewN ?_ _) | (with_reducible refine below_via (by with_reducible assumption) ?_ ?_) | go_size))) hn).mono ?_; rintro e w' ⟨rfl, hbi⟩; have hzi := hbi.size; (try simp at hzi)) | (go_at_call 40; refine (sIsRaster r c a n cp zs _ (p1.out.below (by repeat' (first | (with_reducible exact Below.refl _ _) | (with_reducible assumption) | (with_reducible refine Below.alloc ?_ ?_ _) | (with_reducible refine Below.setCell ?_ ?_ _) | (with_reducible refine Below.drew ?_) | (with_reducible refine below_drewN ?_ _) | (with_reducible refine below_via (by with_reducible assumption) ?_ ?_) | go_size))) hn).mono ?_; rintro e w' ⟨rfl, hbs⟩; have hzs := hbs.size; (try simp at hzs)))
    all_goals
      go_wp2
      go_meet
      case rel => exact ⟨by simp, by unfold Hid; repeat' (first | (with_reducible exact Below.refl _ _) | (with_reducible assumption) | (with_reducible refine Below.alloc ?_ ?_ _) | (with_reducible refine Below.setCell ?_ ?_ _) | (with_reducible refine Below.drew ?_) | (with_reducible refine below_drewN ?_ _) | (with_reducible refine below_via (by with_reducible assumption) ?_ ?_) | go_size)⟩
  obtain ⟨rfl, hbc⟩ := hcut
  obtain ⟨w4, rfl⟩ : ∃ w4 : World, w4 = wc := ⟨_, rfl⟩
  have hbw := hbc.out
  have hz5 := hbw.size
  clear HSW
  rcases HCO.out with ⟨rfl, hr⟩ | ⟨rfl, hr, R', C', rfl, rfl, rfl, rfl, h1, h2, h3, h4, hL⟩
  · go_wp2
    go_returns
    exact ⟨rfl, by repeat' (first | (with_reducible exact Below.refl _ _) | (with_reducible assumption) | (with_reducible refine Below.alloc ?_ ?_ _) | (with_reducible refine Below.setCell ?_ ?_ _) | (with_reducible refine Below.drew ?_) | (with_reducible refine below_drewN ?_ _) | (with_reducible refine below_via (by with_reducible assumption) ?_ ?_) | go_size)⟩
  have hLl : L.length = C' * R' := by rw [hL]; exact turnL_length R' C' zs
  have hzl : zs.length = R' * C' := by rw [HLN.out, h4]
  have hr' := rastB_turn HLN.out hr
  rw [← hL, ← hLl] at hr'
  have h8 := (rasterB_yes hr).2.2.2.2.2.2.2
  have h8' := (rasterB_yes hr').2.2.2.2.2.2.2
  have HHE : Hid (histP L L.length = histP zs n) := by
    unfold Hid
    rw [hLl, hL, h4]
    rw [hL] at h8'
    exact hist_turn R' C' zs hzl h8 h8'
  have hr0 : rasterB (R' : Int) (C' : Int) (R' * C') zs = true := by rw [← h4]; exact hr
  have HR := Lib.hid hr
  have HR' := Lib.hid hr'
  have HR0 := Lib.hid hr0
  have HZL := Lib.hid hzl
  have HLL := Lib.hid hLl
  have HN4 := Lib.hid h4
  have HL := Lib.hid hL
  clear hr hr' hr0 hzl hLl h4 hL h8 h8' HI HS HCO
  obtain ⟨_, _, _, _⟩ := (k3.out.keep (by repeat' (first | (with_reducible exact Below.refl _ _) | (with_reducible assumption) | (with_reducible refine Below.alloc ?_ ?_ _) | (with_reducible refine Below.setCell ?_ ?_ _) | (with_reducible refine Below.drew ?_) | (with_reducible refine below_drewN ?_ _) | (with_reducible refine below_via (by with_reducible assumption) ?_ ?_) | go_size)) : Box3 w4 _ _ _ _)
  obtain ⟨_, _, _, _⟩ := (k4.out.keep (by repeat' (first | (with_reducible exact Below.refl _ _) | (with_reducible assumption) | (with_reducible refine Below.alloc ?_ ?_ _) | (with_reducible refine Below.setCell ?_ ?_ _) | (with_reducible refine Below.drew ?_) | (with_reducible refine below_drewN ?_ _) | (with_reducible refine below_via (by with_reducible assumption) ?_ ?_) | go_size)) : Box3 w4 _ _ _ _)
  go_wp2_with fail
  refine (iHist256 _ _ _ _ _ zs _ (p1.out.below (by repeat' (first | (with_reducible exact Below.refl _ _) | (with_reducible assumption) | (with_reducible refine Below.alloc ?_ ?_ _) | (with_reducible refine Below.setCell ?_ ?_ _) | (with_reducible refine Below.drew ?_) | (with_reducible refine below_drewN ?_ _) | (with_reducible refine below_via (by with_reducible assumption) ?_ ?_) | go_size))) hn HR.out).mono ?_
  rintro e w5 ⟨a8, c8, rfl, hr8, hb5, hf8⟩
  have hz6 := hb5.size
  obtain ⟨_, _, _, _⟩ := (k3.out.keep (by repeat' (first | (with_reducible exact Below.refl _ _) | (with_reducible assumption) | (with_reducible refine Below.alloc ?_ ?_ _) | (with_reducible refine Below.setCell ?_ ?_ _) | (with_reducible refine Below.drew ?_) | (with_reducible refine below_drewN ?_ _) | (with_reducible refine below_via (by with_reducible assumption) ?_ ?_) | go_size)) : Box3 w5 _ _ _ _)
  obtain ⟨_, _, _, _⟩ := (k4.out.keep (by repeat' (first | (with_reducible exact Below.refl _ _) | (with_reducible assumption) | (with_reducible refine Below.alloc ?_ ?_ _) | (with_reducible refine Below.setCell ?_ ?_ _) | (with_reducible refine Below.drew ?_) | (with_reducible refine below_drewN ?_ _) | (with_reducible refine below_via (by with_reducible assumption) ?_ ?_) | go_size)) : Box3 w5 _ _ _ _)
  have HR8 := Lib.hid hr8
  have HF8 := Lib.hid hf8
  clear hr8 hf8
  go_wp2_with fail
  refine (iHist256 _ _ _ _ _ L _ (p2.out.below (by repeat' (first | (with_reducible exact Below.refl _ _) | (with_reducible assumption) | (with_reducible refine Below.alloc ?_ ?_ _) | (with_reducible refine Below.setCell ?_ ?_ _) | (with_reducible refine Below.drew ?_) | (with_reducible refine below_drewN ?_ _) | (with_reducible refine below_via (by with_reducible assumption) ?_ ?_) | go_size))) hn2 HR'.out).mono ?_
  rw [HHE.out]
  rintro e w6 ⟨a10, c10, rfl, hr10, hb6, hf10⟩
  have hz7 := hb6.size
  have HR10 := Lib.hid hr10
  have HF10 := Lib.hid hf10
  clear hr10 hf10
  have HR86 := Lib.hid (HR8.out.below hb6)
  have P16 : Hid (Rd w6 a n zs) := p1.out.below (by repeat' (first | (with_reducible exact Below.refl _ _) | (with_reducible assumption) | (with_reducible refine Below.alloc ?_ ?_ _) | (with_reducible refine Below.setCell ?_ ?_ _) | (with_reducible refine Below.drew ?_) | (with_reducible refine below_drewN ?_ _) | (with_reducible refine below_via (by with_reducible assumption) ?_ ?_) | go_size))
  have P26 : Hid (Rd w6 a2 L.length L) := p2.out.below (by repeat' (first | (with_reducible exact Below.refl _ _) | (with_reducible assumption) | (with_reducible refine Below.alloc ?_ ?_ _) | (with_reducible refine Below.setCell ?_ ?_ _) | (with_reducible refine Below.drew ?_) | (with_reducible refine below_drewN ?_ _) | (with_reducible refine below_via (by with_reducible assumption) ?_ ?_) | go_size))
  have K36 : Hid (Box3 w6 w1.heap.size _ _ _) := k3.out.keep (by repeat' (first | (with_reducible exact Below.refl _ _) | (with_reducible assumption) | (with_reducible refine Below.alloc ?_ ?_ _) | (with_reducible refine Below.setCell ?_ ?_ _) | (with_reducible refine Below.drew ?_) | (with_reducible refine below_drewN ?_ _) | (with_reducible refine below_via (by with_reducible assumption) ?_ ?_) | go_size))
  have K46 : Hid (Box3 w6 w2.heap.size _ _ _) := k4.out.keep (by repeat' (first | (with_reducible exact Below.refl _ _) | (with_reducible assumption) | (with_reducible refine Below.alloc ?_ ?_ _) | (with_reducible refine Below.setCell ?_ ?_ _) | (with_reducible refine Below.drew ?_) | (with_reducible refine below_drewN ?_ _) | (with_reducible refine below_via (by with_reducible assumption) ?_ ?_) | go_size))
  have G46 : Hid (∀ i, i < 3 → w6.frozen? ⟨w2.heap.size, i, none⟩ = false) := by
    intro i hi
    have e : Below W3.heap.size W3 w6 := by repeat' (first | (with_reducible exact Below.refl _ _) | (with_reducible assumption) | (with_reducible refine Below.alloc ?_ ?_ _) | (with_reducible refine Below.setCell ?_ ?_ _) | (with_reducible refine Below.drew ?_) | (with_reducible refine below_drewN ?_ _) | (with_reducible refine below_via (by with_reducible assumption) ?_ ?_) | go_size)
    rw [e.frozen (p := ⟨w2.heap.size, i, none⟩) (by show w2.heap.size < _; omega)]
    exact g4.out i hi
  have HF1 : Hid (∀ b off, a = some ⟨b, off, none⟩ → 0 < n → b < w1.heap.size) := HRd.out.lt
  have HB6 : Hid (Below w.heap.size w w6) := by unfold Hid; repeat' (first | (with_reducible exact Below.refl _ _) | (with_reducible assumption) | (with_reducible refine Below.alloc ?_ ?_ _) | (with_reducible refine Below.setCell ?_ ?_ _) | (with_reducible refine Below.drew ?_) | (with_reducible refine below_drewN ?_ _) | (with_reducible refine below_via (by with_reducible assumption) ?_ ?_) | go_size)
  have hzz : w1.heap.size < w2.heap.size ∧ w1.heap.size < w6.heap.size ∧ w2.heap.size < w6.heap.size ∧ w.heap.size ≤ w2.heap.size ∧ w1.heap.size ≤ w5.heap.size ∧ w2.heap.size < w4.heap.size ∧ w2.heap.size < w5.heap.size := by omega
  clear hbw hbc hb5 hb6 hB hb1 HR8 p1 p2 p3 k3 k4 k6 g4
  obtain ⟨b4, hb4⟩ : ∃ b4, b4 = w2.heap.size := ⟨_, rfl⟩
  obtain ⟨b3, hb3⟩ : ∃ b3, b3 = w1.heap.size := ⟨_, rfl⟩
  rw [← hb4, ← hb3] at hzz
  rw [← hb4] at K46 G46 q2
  rw [← hb3] at K36 HF1
  rw [← hb4, ← hb3]
  clear hz1 hz2 hz3 hz4 hz5 hz6 hz7 hz34 hb3 hb4
  have D0 := turnT_ok HZL.out HR0.out
  have D4 := turnT_four HZL.out h1
  have HD0 := Lib.hid D0
  have HD4 := Lib.hid D4
  have T1 : Hid (turnT R' C' zs (0 + 1) = (C', R', L)) := by unfold Hid; rw [HL.out]; rfl
  clear D0 D4
  go_wp2_with fail
  go_loopw [12] (fun i wr => ∃ k : Nat, k ≤ 3 ∧ i = .int .i64 k ∧ ∃ (A B : Nat) (M : List Int) (a4 : Option Addr) (c4 : Nat), Hid (turnT R' C' zs (k + 1) = (A, B, M)) ∧ Hid (Box3 wr b4 (.int .i64 (A : Int)) (.int .i64 (B : Int)) (.slice a4 M.length c4)) ∧ Hid (Rd wr a4 M.length M) ∧ Hid (∀ b off, a4 = some ⟨b, off, none⟩ → 0 < M.length → b ≠ b4) ∧ Hid (∀ i, i < 3 → wr.frozen? ⟨b4, i, none⟩ = false) ∧ Hid (w6.grownBy wr (some b4))) (fun i _ => 3 - (intOf i).toNat)
  case atStart => exact ⟨0, Nat.zero_le _, rfl, C', R', L, a2, c2, T1, K46, P26, (fun b off e hp => by have := q2.out b off e hp; omega), G46, World.grownBy.refl w6 _⟩
  case round =>
    obtain ⟨k, hk, rfl, A, B, M, a4, c4, hT, hK, hM, hne, hfz, hgr⟩ := hrel
    have hszg := hgr.out.size
    by_cases hlt : k < 3
    · obtain ⟨e1, e2⟩ := HD0.out (k + 1)
      rw [hT.out] at e1 e2
      dsimp only at e1 e2
      have hA := (rasterB_yes e2)
      have hMn : M.length ≤ 1048576 := by
        have a1 : A ≤ 400 := by omega
        have a2 : B ≤ 400 := by omega
        have := Nat.mul_le_mul a1 a2
        omega
      rw [← e1] at e2
      have HM := Lib.hid e2
      have hK0 := hK.out
      obtain ⟨_, _, _, _⟩ := hK0
      clear e1 e2 hA
      go_wp2_with fail
      refine (iTurnN A B a4 M.length c4 M _ hM.out hMn HM.out).mono ?_
      rintro e wq ⟨aq, cq, rfl, hoq, hbq, hnq⟩
      have hszq := hbq.size
      have hx0 := (hK.out.keep hbq)
      obtain ⟨x0, x1, x2, x3⟩ := hx0
      have y0 : wq.frozen? ⟨b4, 0, none⟩ = false := by rw [hbq.frozen (p := ⟨b4, 0, none⟩) (by show b4 < _; omega)]; exact hfz.out 0 (by omega)
      have y1 : wq.frozen? ⟨b4, 1, none⟩ = false := by rw [hbq.frozen (p := ⟨b4, 1, none⟩) (by show b4 < _; omega)]; exact hfz.out 1 (by omega)
      have y2 : wq.frozen? ⟨b4, 2, none⟩ = false := by rw [hbq.frozen (p := ⟨b4, 2, none⟩) (by show b4 < _; omega)]; exact hfz.out 2 (by omega)
      have HOQ := Lib.hid hoq
      clear hoq
      go_wp2_with fail
      go_roundw
      case rel =>
        have hob := own_block HOQ.out
        have hkk := store3 (x := .int .i64 (B : Int)) (y := .int .i64 (A : Int)) (z := .slice aq (turnL A B M).length cq) x0 x1 x2 x3
        have hgg : wq.grownBy (((wq.setCell ⟨b4, 0, none⟩ (.int .i64 (B : Int))).setCell ⟨b4, 1, none⟩ (.int .i64 (A : Int))).setCell ⟨b4, 2, none⟩ (.slice aq (turnL A B M).length cq)) (some b4) := only_setCell (only_setCell (only_setCell (World.grownBy.refl wq _) _) _) _
        have hgw : wr.grownBy (((wq.setCell ⟨b4, 0, none⟩ (.int .i64 (B : Int))).setCell ⟨b4, 1, none⟩ (.int .i64 (A : Int))).setCell ⟨b4, 2, none⟩ (.slice aq (turnL A B M).length cq)) (some b4) := only_setCell (only_setCell (only_setCell (only_of_below hbq _) _) _) _
        have hfq : ∀ b off, aq = some ⟨b, off, none⟩ → 0 < (turnL A B M).length → b ≠ b4 := fun b off e hp => by
          have := own_fresh HOQ.out hp b off e
          omega
        have hal := fun (W : World) => (Below.refl W.heap.size W).alloc (Nat.le_refl _) (.cells #[.int .i64 (B : Int), .int .i64 (A : Int), .slice aq (turnL A B M).length cq] 26)
        refine ⟨k + 1, by omega, by go_num, B, A, turnL A B M, aq, cq, ?_, hkk.out.keep (hal _), (rd_nxt (own_rd HOQ.out) hgg hfq).below (hal _), hfq, ?_, only_below (hgr.out.trans hgw) (hal _)⟩
        · show turnT R' C' zs (k + 1 + 1) = _
          unfold turnT
          rw [hT.out]
        · intro i hi
          rw [(hal _).frozen (p := ⟨b4, i, none⟩) (by simpa using x0)]
          simp only [World.frozen?_setCell]
          rcases i with _ | _ | _ | i
          · exact y0
          · exact y1
          · exact y2
          · omega
      case measure => simp [intOf]; omega
    · have hke : k = 3 := by omega
      subst hke
      have hq := HD4.out
      rw [hT.out] at hq
      injection hq with q1 q2
      injection q2 with q2 q3
      rw [q1, q2, q3] at hK
      rw [q3] at hM hne
      have hA8 : Rd wr a8 256 (histP zs n) := rd_nxt HR86.out hgr.out (fun b off e _ => by have := HF8.out b off e; omega)
      have hA10 : Rd wr a10 256 (histP zs n) := rd_nxt HR10.out hgr.out (fun b off e _ => by have := HF10.out b off e; omega)
      have hPw : Hid (Rd wr a n zs) := rd_nxt P16.out hgr.out (fun b off e hp => by have := HF1.out b off e hp; omega)
      have hK3 : Hid (Box3 wr b3 (.int .i64 (R' : Int)) (.int .i64 (C' : Int)) (.slice a n cp)) := box3_only K36.out hgr.out (by omega)
      go_wp2_with fail
      refine (lLike a8 a10 256 256 _ _ (histP zs n) _ hA8 hA10 (by omega)).mono ?_
      rintro e wx ⟨rfl, hbx⟩
      obtain ⟨_, _, _, _⟩ := hK.out.keep hbx
      obtain ⟨_, _, _, _⟩ := hK3.out.keep hbx
      go_wp2_with fail
      refine (lLikeR (R' : Int) (C' : Int) _ _ _ _ _ _ zs _ (hM.out.below (by repeat' (first | (with_reducible exact Below.refl _ _) | (with_reducible assumption) | (with_reducible refine Below.alloc ?_ ?_ _) | (with_reducible refine Below.setCell ?_ ?_ _) | (with_reducible refine Below.drew ?_) | (with_reducible refine below_drewN ?_ _) | (with_reducible refine below_via (by with_reducible assumption) ?_ ?_) | go_size))) (hPw.out.below (by repeat' (first | (with_reducible exact Below.refl _ _) | (with_reducible assumption) | (with_reducible refine Below.alloc ?_ ?_ _) | (with_reducible refine Below.setCell ?_ ?_ _) | (with_reducible refine Below.drew ?_) | (with_reducible refine below_drewN ?_ _) | (with_reducible refine below_via (by with_reducible assumption) ?_ ?_) | go_size))) (by have := HLN.out; omega)).mono ?_
      rintro e wy ⟨rfl, hby⟩
      go_wp2
      go_returns
      exact ⟨rfl, below_only HB6.out (only_below (only_below hgr.out hbx) hby) (by have := HB6.out.size; omega) (by omega)⟩
end Go.Proofs.Ytdbecdgiafjkfaa
