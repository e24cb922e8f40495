/-
  DERIVED. Numbers in decimal, separated by blanks: the plain laws.
-/
import Derived.Test.YtcpicgcdefnhaaaDoorDec
import Derived.Test.YtcpicgcdefnhaaaDoorRast
namespace Go.Proofs.YtcpicgcdefnhaaaDoor
open Go.RowKit Go.Lib
set_option linter.unusedVariables false
/-- Numbers in decimal, separated by blanks. -/
def jn : List Int → List UInt8
  | [] => []
  | x :: r => itoa x ++ r.flatMap fun y => 32 :: itoa y
theorem jn_one (x : Int) : jn [x] = itoa x := by simp [jn]
theorem jn_snoc {L : List Int} (h : L ≠ []) (x : Int) : jn (L ++ [x]) = jn L ++ 32 :: itoa x := by
  cases L with
  | nil => exact absurd rfl h
  | cons y r => simp [jn, List.flatMap_append]
theorem itoa_nn {n : Nat} : itoa (n : Int) = decDigits n := by
  unfold itoa
  rw [if_neg (by omega)]
  rfl
theorem jn_two (R C : Nat) : jn [(R : Int), (C : Int)] = decDigits R ++ [32] ++ decDigits C := by simp [jn, itoa_nn]
theorem nDig_3 {u : Nat} (h : u < 1000) : nDigits u ≤ 3 := by
  by_cases h1 : u < 10
  · rw [nDigits_small h1]; omega
  · rw [nDigits_big h1]
    by_cases h2 : u / 10 < 10
    · rw [nDigits_small h2]; omega
    · rw [nDigits_big h2, nDigits_small (by omega)]; omega
theorem itoa_len {x : Int} (h0 : 0 ≤ x) (h1 : x ≤ 999) : (itoa x).length ≤ 3 := by
  obtain ⟨n, rfl⟩ := Int.eq_ofNat_of_zero_le h0
  rw [itoa_nn, decDigits_length]
  exact nDig_3 (by omega)
theorem flat_len : ∀ {r : List Int}, (∀ x ∈ r, 0 ≤ x ∧ x ≤ 999) → (r.flatMap fun y => 32 :: itoa y).length ≤ 4 * r.length
  | [], _ => by simp
  | y :: r, h => by
    have h1 := itoa_len (h y (by simp)).1 (h y (by simp)).2
    have h2 := flat_len (r := r) (fun x hx => h x (by simp [hx]))
    simp only [List.flatMap_cons, List.length_append, List.length_cons]
    omega
theorem jn_len {L : List Int} (h : ∀ x ∈ L, 0 ≤ x ∧ x ≤ 999) : (jn L).length ≤ 4 * L.length := by
  cases L with
  | nil => simp [jn]
  | cons y r =>
    have h1 := itoa_len (h y (by simp)).1 (h y (by simp)).2
    have h2 := flat_len (r := r) (fun x hx => h x (by simp [hx]))
    simp only [jn, List.length_append, List.length_cons]
    omega
/-- The text of a raster. -/
def rText (r c : Int) (n : Nat) (zs : List Int) : ByteArray := if rasterB r c n zs then ⟨(jn (r :: c :: zs)).toArray⟩ else ⟨#[]⟩
theorem byteCells_app (xs ys : List UInt8) : byteCells (xs ++ ys) = byteCells xs ++ byteCells ys := by simp [byteCells]
theorem strCells_of (l : List UInt8) : strCells ⟨l.toArray⟩ = byteCells l := by simp [strCells, byteCells]
/-- '[]byte(s)' as one step. -/
theorem bytesOf (W : World) (s : ByteArray) (hs : s.size ≤ 1048576) : ∃ v X, (convert 9 35 (.string s)).run Tryd.prog W = .ok v X ∧ OwnM X W.heap.size 5 v s.size (strCells s) ∧ v ≠ .slice none 0 0 ∧ Below W.heap.size W X := by
  refine ⟨_, _, run_bytes_of_string W 9 35 5 s Tryd.underlying9 Tryd.underlying35 Tryd.underlying5, OwnM.ofString W _ _ s hs (Nat.le_refl _), by simp, ?_⟩
  exact ((Below.refl _ _).drew).alloc (Nat.le_refl _) _
theorem stringOf {W : World} {base : Nat} {v : Value} {l : List UInt8} {n : Nat} (h : OwnM W base 5 v n (byteCells l)) (hv : v ≠ .slice none 0 0) : (convert 35 9 v).run Tryd.prog W = .ok (.string ⟨l.toArray⟩) W := by
  obtain ⟨hl, h0 | ⟨g, cap, cur, fz, rfl, hb, hg, hz, hc, hm, hs, ht⟩⟩ := h
  · exact absurd h0.1 hv
  · rw [byteCells_length] at hl
    subst hl
    refine run_convert_bytes_back W 35 9 5 ⟨g, 0, none⟩ cap l Tryd.underlying35 Tryd.underlying5 Tryd.underlying9 (fun j hj => ?_)
    have h2 : OwnM W base 5 (.slice (some ⟨g, 0, none⟩) l.length cap) l.length (byteCells l) := ⟨byteCells_length l, .inr ⟨g, cap, cur, fz, rfl, hb, hg, hz, hc, hm, hs, ht⟩⟩
    exact h2.cells (g := g) rfl j _ (by simp [byteCells, hj])
end Go.Proofs.YtcpicgcdefnhaaaDoor
