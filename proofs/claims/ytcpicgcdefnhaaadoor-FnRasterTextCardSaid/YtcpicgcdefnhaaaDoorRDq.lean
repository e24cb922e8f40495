/-
  DERIVED. Words between blanks; which strings are texts of rasters.
-/
import Derived.Test.YtcpicgcdefnhaaaDoorRDp
namespace Go.Proofs.YtcpicgcdefnhaaaDoor
open Go.RowKit Go.Lib
set_option linter.unusedVariables false
/-- The words between blanks. -/
def spl : List UInt8 → List (List UInt8)
  | [] => [[]]
  | c :: r => if c = 32 then [] :: spl r else (match spl r with | [] => [[c]] | h :: t => (c :: h) :: t)
theorem spl_ne (l : List UInt8) : spl l ≠ [] := by
  cases l with
  | nil => simp [spl]
  | cons c r =>
    rw [spl]
    split
    · simp
    · split <;> simp
theorem spl_cons : ∀ {a b : List UInt8}, (∀ c ∈ a, c ≠ 32) → spl (a ++ 32 :: b) = a :: spl b
  | [], b, _ => by rw [List.nil_append, spl, if_pos rfl]
  | c :: r, b, h => by
    rw [List.cons_append, spl, if_neg (h c (by simp)), spl_cons (a := r) (fun x hx => h x (by simp [hx]))]
theorem spl_last : ∀ {a : List UInt8}, (∀ c ∈ a, c ≠ 32) → spl a = [a]
  | [], _ => rfl
  | c :: r, h => by rw [spl, if_neg (h c (by simp)), spl_last (a := r) (fun x hx => h x (by simp [hx]))]
/-- Words with blanks between them. -/
def jw : List (List UInt8) → List UInt8
  | [] => []
  | x :: r => x ++ r.flatMap fun y => 32 :: y
theorem jw_cons (x : List UInt8) {r : List (List UInt8)} (h : r ≠ []) : jw (x :: r) = x ++ 32 :: jw r := by
  cases r with
  | nil => exact absurd rfl h
  | cons y t => simp [jw]
theorem jw_spl : ∀ l : List UInt8, jw (spl l) = l
  | [] => by simp [spl, jw]
  | c :: r => by
    have ih := jw_spl r
    rw [spl]
    split
    · rename_i h
      rw [jw_cons [] (spl_ne r), ih, h]
      rfl
    · cases hs : spl r with
      | nil => exact absurd hs (spl_ne r)
      | cons x t =>
        rw [hs] at ih
        simp only [jw] at ih ⊢
        rw [List.cons_append, ih]
theorem spl_jw : ∀ {ws : List (List UInt8)}, ws ≠ [] → (∀ x ∈ ws, ∀ c ∈ x, c ≠ 32) → spl (jw ws) = ws
  | [], h, _ => absurd rfl h
  | [x], _, h => by simp only [jw, List.flatMap_nil, List.append_nil]; exact spl_last (h x (by simp))
  | x :: y :: t, _, h => by
    rw [jw_cons x (by simp), spl_cons (h x (by simp)), spl_jw (ws := y :: t) (by simp) (fun z hz => h z (by simp at hz ⊢; right; exact hz))]
theorem jn_jw : ∀ L : List Int, jn L = jw (L.map itoa)
  | [] => rfl
  | x :: r => by simp [jn, jw, List.flatMap_map]
theorem dec_blank (n : Nat) : ∀ c ∈ decDigits n, c ≠ 32 := fun c hc e => by
  have := dec_dig n c hc
  unfold dg8 at this
  subst e
  simp at this
/-- A string is the text of a valid raster. -/
def RV (l : List UInt8) (r c : Int) (zs : List Int) : Prop := rasterB r c zs.length zs = true ∧ l = jn (r :: c :: zs)
theorem rv_bd {l : List UInt8} {r c : Int} {zs : List Int} (h : RV l r c zs) : ∀ x ∈ r :: c :: zs, 0 ≤ x ∧ x ≤ 999 := by
  obtain ⟨r1, r2, c1, c2, p1, p2, hn, hp⟩ := rasterB_yes h.1
  intro x hx
  rcases List.mem_cons.1 hx with rfl | hx
  · omega
  · rcases List.mem_cons.1 hx with rfl | hx
    · omega
    · have := hp x hx
      omega
theorem itoa_dec {x : Int} (h : 0 ≤ x) : itoa x = decDigits x.toNat := by
  obtain ⟨n, rfl⟩ := Int.eq_ofNat_of_zero_le h
  rw [itoa_nn]
  rfl
theorem rv_spl {l : List UInt8} {r c : Int} {zs : List Int} (h : RV l r c zs) : spl l = (r :: c :: zs).map itoa := by
  rw [h.2, jn_jw]
  refine spl_jw (by simp) (fun x hx => ?_)
  obtain ⟨y, hy, rfl⟩ := List.mem_map.1 hx
  rw [itoa_dec (rv_bd h y hy).1]
  exact dec_blank _
/-- A word that is no small number: no raster. -/
theorem rv_word {l : List UInt8} {k : Nat} (hk : k < (spl l).length) (hw : ∀ u : Nat, u ≤ 999 → (spl l).getD k [] ≠ decDigits u) : ∀ r c zs, ¬ RV l r c zs := by
  intro r c zs h
  have hs := rv_spl h
  have hk2 : k < (r :: c :: zs).length := by rw [hs, List.length_map] at hk; exact hk
  have hm : (r :: c :: zs).getD k 0 ∈ r :: c :: zs := getD_mem hk2
  have hb := rv_bd h _ hm
  refine hw ((r :: c :: zs).getD k 0).toNat (by omega) ?_
  rw [hs, ← itoa_dec hb.1]
  simp only [List.getD_eq_getElem?_getD, List.getElem?_map, List.getElem?_eq_getElem hk2]
  rfl
theorem map_dec_inj : ∀ {A B : List Nat}, A.map decDigits = B.map decDigits → A = B
  | [], [], _ => rfl
  | [], _ :: _, h => by simp at h
  | _ :: _, [], h => by simp at h
  | a :: A, b :: B, h => by
    simp only [List.map_cons, List.cons.injEq] at h
    rw [dec_inj h.1, map_dec_inj h.2]
theorem ints_dec (L : List Nat) : (L.map (fun n : Nat => (n : Int))).map itoa = L.map decDigits := by
  rw [List.map_map]
  exact List.map_congr_left fun n _ => itoa_nn
/-- The numbers of the words, all read. -/
theorem rv_all {l : List UInt8} {L : List Nat} (hL : spl l = L.map decDigits) : l = jn (L.map fun n : Nat => (n : Int)) := by
  rw [jn_jw, ints_dec, ← hL, jw_spl]
theorem rv_same {l : List UInt8} {L : List Nat} (hL : spl l = L.map decDigits) {r c : Int} {zs : List Int} (h : RV l r c zs) : r :: c :: zs = L.map fun n : Nat => (n : Int) := by
  have hs := rv_spl h
  rw [hL] at hs
  have h1 : (r :: c :: zs).map itoa = ((r :: c :: zs).map Int.toNat).map decDigits := by
    rw [List.map_map]
    exact List.map_congr_left fun x hx => itoa_dec (rv_bd h x hx).1
  rw [h1] at hs
  have h2 := map_dec_inj hs
  rw [h2, List.map_map]
  have h3 : (r :: c :: zs).map ((fun n : Nat => (n : Int)) ∘ Int.toNat) = (r :: c :: zs).map id := List.map_congr_left fun x hx => by
    have := (rv_bd h x hx).1
    simp
    omega
  rw [h3, List.map_id]
theorem rv_short {l : List UInt8} {L : List Nat} (hL : spl l = L.map decDigits) (hn : L.length < 3) : ∀ r c zs, ¬ RV l r c zs := by
  intro r c zs h
  have h1 := congrArg List.length (rv_same hL h)
  obtain ⟨_, _, _, _, p1, _, hz, _⟩ := rasterB_yes h.1
  simp only [List.length_cons, List.length_map] at h1
  omega
theorem rv_bad {l : List UInt8} {L : List Nat} (hL : spl l = L.map decDigits) {r c : Int} {zs : List Int} (e : (L.map fun n : Nat => (n : Int)) = r :: c :: zs) (hb : rasterB r c zs.length zs = false) : ∀ r c zs, ¬ RV l r c zs := by
  intro r' c' zs' h
  have h1 := rv_same hL h
  rw [e] at h1
  simp only [List.cons.injEq] at h1
  obtain ⟨rfl, rfl, rfl⟩ := h1
  rw [h.1] at hb
  cases hb
theorem rv_good {l : List UInt8} {L : List Nat} (hL : spl l = L.map decDigits) {r c : Int} {zs : List Int} (e : (L.map fun n : Nat => (n : Int)) = r :: c :: zs) (hb : rasterB r c zs.length zs = true) : RV l r c zs :=
  ⟨hb, by rw [rv_all hL, e]⟩
theorem rv_long {l : List UInt8} (h : 160008 < l.length) : ∀ r c zs, ¬ RV l r c zs := by
  intro r c zs hv
  obtain ⟨_, _, _, _, _, p2, hz, _⟩ := rasterB_yes hv.1
  have h1 := jn_len (rv_bd hv)
  rw [← hv.2] at h1
  simp only [List.length_cons] at h1
  omega
end Go.Proofs.YtcpicgcdefnhaaaDoor
