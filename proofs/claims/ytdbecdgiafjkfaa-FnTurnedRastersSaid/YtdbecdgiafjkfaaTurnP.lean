/-
  DERIVED. The rasters turned again and again.
-/
import Derived.Test.YtdbecdgiafjkfaaTurn4
import Derived.Test.YtdbecdgiafjkfaaTurn2
namespace Go.Proofs.Ytdbecdgiafjkfaa
open Go.RowKit
set_option linter.unusedVariables false
theorem rastB_turn {R C n : Nat} {zs : List Int} (hl : zs.length = n) (h : rasterB (R : Int) (C : Int) n zs = true) : rasterB (C : Int) (R : Int) (C * R) (turnL R C zs) = true := by
  obtain ⟨a, b, c, d, e, f, g, h8⟩ := rasterB_yes h
  have hm : (C : Int) * (R : Int) = (R : Int) * (C : Int) := Int.mul_comm _ _
  have hn : n = R * C := by have : ((R : Int) * (C : Int)) = ((R * C : Nat) : Int) := by simp
                            omega
  have hall : (turnL R C zs).all (fun x => inB x 0 255) = true := by
    rw [List.all_eq_true]
    intro x hx
    obtain ⟨p, q⟩ := turnL_mem R C zs (by rw [hl]; exact hn) h8 x hx
    exact inB_yes p q
  unfold rasterB sizeB
  rw [inB_yes c d, inB_yes a b, hall]
  simp only [Bool.true_and, Bool.and_true, Bool.and_eq_true, decide_eq_true_eq]
  refine ⟨by omega, by simp⟩
theorem rastB_nat {r c : Int} {n : Nat} {zs : List Int} (h : rasterB r c n zs = true) : ∃ R C : Nat, r = (R : Int) ∧ c = (C : Int) ∧ 0 < R ∧ 0 < C ∧ R ≤ 400 ∧ C ≤ 400 ∧ n = R * C := by
  obtain ⟨a, b, c', d, e, f, g, h8⟩ := rasterB_yes h
  obtain ⟨R, rfl⟩ := Int.eq_ofNat_of_zero_le (show 0 ≤ r by omega)
  obtain ⟨C, rfl⟩ := Int.eq_ofNat_of_zero_le (show 0 ≤ c by omega)
  have : ((R : Int) * (C : Int)) = ((R * C : Nat) : Int) := by simp
  exact ⟨R, C, rfl, rfl, by omega, by omega, by omega, by omega, by omega⟩
def turnT (R C : Nat) (zs : List Int) : Nat → Nat × Nat × List Int
  | 0 => (R, C, zs)
  | k + 1 => ((turnT R C zs k).2.1, (turnT R C zs k).1, turnL (turnT R C zs k).1 (turnT R C zs k).2.1 (turnT R C zs k).2.2)
theorem turnT_ok {R C : Nat} {zs : List Int} (hl : zs.length = R * C) (h : rasterB (R : Int) (C : Int) (R * C) zs = true) (k : Nat) :
    (turnT R C zs k).2.2.length = (turnT R C zs k).1 * (turnT R C zs k).2.1 ∧ rasterB ((turnT R C zs k).1 : Int) ((turnT R C zs k).2.1 : Int) ((turnT R C zs k).1 * (turnT R C zs k).2.1) (turnT R C zs k).2.2 = true := by
  induction k with
  | zero => exact ⟨hl, h⟩
  | succ k ih =>
    obtain ⟨i1, i2⟩ := ih
    exact ⟨turnL_length _ _ _, rastB_turn i1 i2⟩
theorem turnT_four {R C : Nat} {zs : List Int} (hl : zs.length = R * C) (hc : 0 < C) : turnT R C zs 4 = (R, C, zs) := by
  show (R, C, turnL C R (turnL R C (turnL C R (turnL R C zs)))) = (R, C, zs)
  rw [turn4 R C zs hl hc]
theorem iTurnN (R C : Nat) (a : Option Addr) (n cp : Nat) (zs : List Int) (w : World) (h : Rd w a n zs) (hn : n ≤ 1048576) (hr : rasterB (R : Int) (C : Int) n zs = true) :
    Calls Try.prog 37 #[.agg #[.int .i64 (R : Int), .int .i64 (C : Int), .slice a n cp]] w (ResG w (C : Int) (R : Int) (turnL R C zs) 0) := by
  have := iTurnRaster_ok (R : Int) (C : Int) a n cp zs w h hn hr
  simp only [Int.toNat_natCast] at this
  exact this
theorem sTurnN (R C : Nat) (a : Option Addr) (n cp : Nat) (zs : List Int) (w : World) (h : Rd w a n zs) (hn : n ≤ 1048576) (hr : rasterB (R : Int) (C : Int) n zs = true) :
    Calls Try.prog 38 #[.agg #[.int .i64 (R : Int), .int .i64 (C : Int), .slice a n cp]] w (ResG w (C : Int) (R : Int) (turnL R C zs) 0) := by
  have := sTurnRaster_ok (R : Int) (C : Int) a n cp zs w h hn hr
  simp only [Int.toNat_natCast] at this
  exact this
theorem turn_code {r c : Int} {n : Nat} {zs : List Int} (hn : n ≤ 1048576) (hl : zs.length = n) : ∃ (R C code : Int) (L : List Int),
    (∀ (a : Option Addr) (cp : Nat) (w : World), Rd w a n zs → Calls Try.prog 37 #[.agg #[.int .i64 r, .int .i64 c, .slice a n cp]] w (ResG w R C L code)) ∧
    (∀ (a : Option Addr) (cp : Nat) (w : World), Rd w a n zs → Calls Try.prog 38 #[.agg #[.int .i64 r, .int .i64 c, .slice a n cp]] w (ResG w R C L code)) ∧
    ((code = 1 ∧ rasterB r c n zs = false) ∨ (code = 0 ∧ rasterB r c n zs = true ∧ ∃ R' C' : Nat, r = (R' : Int) ∧ c = (C' : Int) ∧ R = (C' : Int) ∧ C = (R' : Int) ∧ 0 < C' ∧ R' ≤ 400 ∧ C' ≤ 400 ∧ n = R' * C' ∧ L = turnL R' C' zs)) := by
  cases hr : rasterB r c n zs
  · exact ⟨0, 0, 1, [], fun a cp w h => iTurnRaster_no r c a n cp zs w h hn hr, fun a cp w h => sTurnRaster_no r c a n cp zs w h hn hr, .inl ⟨rfl, rfl⟩⟩
  · obtain ⟨R, C, rfl, rfl, h1, h2, h3, h4, h5⟩ := rastB_nat hr
    exact ⟨C, R, 0, turnL R C zs, fun a cp w h => iTurnN R C a n cp zs w h hn hr, fun a cp w h => sTurnN R C a n cp zs w h hn hr, .inr ⟨rfl, rfl, R, C, rfl, rfl, rfl, rfl, h2, h3, h4, h5, rfl⟩⟩
end Go.Proofs.Ytdbecdgiafjkfaa
