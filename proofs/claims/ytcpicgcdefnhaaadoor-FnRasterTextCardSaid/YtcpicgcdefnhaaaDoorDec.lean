/-
  DERIVED. spec.l01Dec: a number in decimal.
-/
import Derived.Test.YtcpicgcdefnhaaaDoorAppM
import Derived.Lib.ItoaNum
import Derived.Laws.Concat
import Derived.Deep.RegionLaw
import Derived.Deep.Cut
namespace Go.Proofs.YtcpicgcdefnhaaaDoor
open Go.RowKit Go.Lib
set_option linter.unusedVariables false
theorem string_one (W : World) (b : Nat) (c : UInt8) (h : W.cell? ⟨b, 0, none⟩ = some (.int .u8 (c.toNat : Int))) : (convert 35 9 (.slice (some ⟨b, 0, none⟩) 1 1)).run Tryd.prog W = .ok (.string ⟨#[c]⟩) W :=
  run_convert_bytes_back W 35 9 5 ⟨b, 0, none⟩ 1 [c] Tryd.underlying35 Tryd.underlying5 Tryd.underlying9 (fun j hj => by
    have : j = 0 := by simpa using hj
    subst this
    rw [Addr.add_lit]
    simpa using h)
theorem cellNew1 (w : World) (v : Value) (t : TypeId) : (w.alloc (.cells #[v] t)).cell? ⟨w.heap.size, 0, none⟩ = some v := by simp
theorem ltNew1 (w : World) (o : Obj) : w.heap.size < (w.alloc o).heap.size := by simp
theorem nDig_le : ∀ {k u : Nat}, u < 10 ^ k → nDigits u ≤ k + 1
  | 0, u, h => by rw [nDigits_small (by simp at h; omega)]; omega
  | k + 1, u, h => by
    by_cases h1 : u < 10
    · rw [nDigits_small h1]; omega
    · rw [nDigits_big h1]
      have := nDig_le (k := k) (u := u / 10) (by rw [Nat.pow_succ] at h; omega)
      omega
theorem digit_nat {d : Nat} (h : d < 10) : ((UInt8.ofNat (48 + d)).toNat : Int) = 48 + (d : Int) := by
  have : (48 + d) % 256 = 48 + d := Nat.mod_eq_of_lt (by omega)
  rw [UInt8.toNat_ofNat', this]
  omega
set_option maxRecDepth 20000 in
set_option maxHeartbeats 1000000 in
theorem sDec : ∀ (n : Nat), n ≤ 9223372036854775807 → ∀ w : World, Calls Tryd.prog 33 #[.int .i64 (n : Int)] w fun e w' => e = .returned (.string ⟨(decDigits n).toArray⟩) ∧ Below w.heap.size w w' := by
  intro n
  induction n using Nat.strongRecOn with
  | _ n ih =>
    intro hn w
    obtain ⟨d, hd⟩ : ∃ d, n % 10 = d := ⟨_, rfl⟩
    have hd10 : d < 10 := by omega
    obtain ⟨c, hc⟩ : ∃ c : UInt8, UInt8.ofNat (48 + d) = c := ⟨_, rfl⟩
    have hcn : (c.toNat : Int) = 48 + (d : Int) := by rw [← hc, digit_nat hd10]
    have HC : Hid (∀ (W : World) (b : Nat), W.cell? ⟨b, 0, none⟩ = some (.int .u8 (48 + (d : Int))) → (convert 35 9 (.slice (some ⟨b, 0, none⟩) 1 1)).run Tryd.prog W = .ok (.string ⟨#[c]⟩) W) := fun W b h => string_one W b c (by rw [hcn]; exact h)
    have e1 : IntKind.u8.wrap (48 + (d : Int)) = 48 + (d : Int) := by rw [IntKind.wrap_u8]; omega
    by_cases h10 : n < 10
    · obtain rfl : d = n := by omega
      have hc1 := HC.out (w.alloc (.cells #[.int .u8 (48 + (d : Int))] 5)) w.heap.size (by simp)
      have hI : (d : Int) < 10 := by omega
      have HD : Hid ((⟨(decDigits d).toArray⟩ : ByteArray) = ⟨#[c]⟩) := by unfold Hid; rw [decDigits_one h10, hc]
      clear ih h10 hc hd hcn HC
      go_enter Tryd.func33, Tryd.ntmps33
      go_wp2_with fail
      go_returns
      exact ⟨by rw [HD.out]; rfl, by repeat' (first | (with_reducible exact Below.refl _ _) | (with_reducible assumption) | (with_reducible refine Below.alloc ?_ ?_ _) | (with_reducible refine Below.setCell ?_ ?_ _) | (with_reducible refine Below.drew ?_) | (with_reducible refine below_drewN ?_ _) | (with_reducible refine below_via (by with_reducible assumption) ?_ ?_) | go_size)⟩
    · have hI : ¬ ((n : Int) < 10) := by omega
      obtain ⟨q, hq⟩ : ∃ q, n / 10 = q := ⟨_, rfl⟩
      have HI := Lib.hid (ih q (by omega) (by omega))
      have e2 : Int.tmod (n : Int) 10 = (d : Int) := by rw [← hd]; rfl
      have e3 : Int.tdiv (n : Int) 10 = (q : Int) := by rw [← hq]; rfl
      have e4 : (n : Int) % 10 = (d : Int) := by omega
      have e5 : (n : Int) / 10 = (q : Int) := by omega
      have hq9 : q ≤ 922337203685477580 := by omega
      obtain ⟨S, hS⟩ : ∃ S : ByteArray, S = ⟨(decDigits q).toArray⟩ := ⟨_, rfl⟩
      have hsz : S.size ≤ 100 := by
        have h1 : S.size = (decDigits q).length := by rw [hS]; exact List.size_toArray
        rw [h1, decDigits_length]
        exact Nat.le_trans (nDig_le (k := 20) (by omega)) (by omega)
      have HD : Hid ((⟨(decDigits n).toArray⟩ : ByteArray) = S ++ ⟨#[c]⟩) := by
        unfold Hid; rw [decDigits, dif_neg h10, hq, hd, hS, hc, ByteArray.mk_append_mk]
      rw [← hS] at HI
      obtain ⟨T, hT⟩ : ∃ T : ByteArray, T = ⟨#[c]⟩ := ⟨_, rfl⟩
      have hTz : T.size = 1 := by rw [hT]; rfl
      rw [← hT] at HD HC
      have hsum : ¬ (9223372036854775807 < S.size + 1) := by omega
      clear ih h10 hd hc hq hS hT hcn
      go_enter Tryd.func33, Tryd.ntmps33
      go_upto_region 3 with (fail)
      have hcC := HC.out (w.alloc (.cells #[.int .u8 (48 + (d : Int))] 5)).drew w.heap.size (cellNew1 w _ _)
      have e6 : IntKind.i64.wrap (q : Int) = (q : Int) := by rw [IntKind.wrap_i64]; omega
      have e7 : IntKind.i64.wrap (48 + (d : Int)) = 48 + (d : Int) := by rw [IntKind.wrap_i64]; omega
      go_region_law ((go_simp; refine (HI.out _).mono ?_; rintro e w2 ⟨rfl, hb2⟩; have hcA := HC.out (w2.alloc (.cells #[.int .u8 (48 + (d : Int))] 5)) w2.heap.size (cellNew1 w2 _ _); (try have hcB := HC.out w2 w.heap.size ((hb2.cell (p := ⟨w.heap.size, 0, none⟩) (ltNew1 w _)).trans (cellNew1 w _ _)))))
      all_goals
        have hbw : Below w.heap.size w w2 := by repeat' (first | (with_reducible exact Below.refl _ _) | (with_reducible assumption) | (with_reducible refine Below.alloc ?_ ?_ _) | (with_reducible refine Below.setCell ?_ ?_ _) | (with_reducible refine Below.drew ?_) | (with_reducible refine below_drewN ?_ _) | (with_reducible refine below_via (by with_reducible assumption) ?_ ?_) | go_size)
        have hzw := hbw.size
        go_wp2_with fail
        go_returns
        exact ⟨by rw [HD.out]; rfl, by repeat' (first | (with_reducible exact Below.refl _ _) | (with_reducible assumption) | (with_reducible refine Below.alloc ?_ ?_ _) | (with_reducible refine Below.setCell ?_ ?_ _) | (with_reducible refine Below.drew ?_) | (with_reducible refine below_drewN ?_ _) | (with_reducible refine below_via (by with_reducible assumption) ?_ ?_) | go_size)⟩
end Go.Proofs.YtcpicgcdefnhaaaDoor
