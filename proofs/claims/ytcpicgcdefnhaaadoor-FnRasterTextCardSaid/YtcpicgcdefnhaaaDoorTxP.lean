/-
  DERIVED. The plain law of FnRasterText: a raster is read back from its text; the last pixel of a blank one.
-/
import Derived.Test.YtcpicgcdefnhaaaDoorRDr
import Derived.Test.YtcpicgcdefnhaaaDoorRTi
import Derived.Test.YtcpicgcdefnhaaaDoorPix
import Derived.Test.YtcpicgcdefnhaaaDoorBlank2
namespace Go.Proofs.YtcpicgcdefnhaaaDoor
open Go.RowKit
set_option linter.unusedVariables false
theorem text_yes {r c : Int} {n : Nat} {zs : List Int} (hl : zs.length = n) (hr : rasterB r c n zs = true) : RV (rText r c n zs).data.toList r c zs := by
  refine ⟨by rw [hl]; exact hr, ?_⟩
  unfold rText
  rw [if_pos hr]
theorem text_size {r c : Int} {n : Nat} {zs : List Int} (hl : zs.length = n) : (rText r c n zs).size ≤ 1048576 := by
  cases hr : rasterB r c n zs
  · unfold rText
    rw [if_neg (by rw [hr]; decide)]
    decide
  · have h1 := jn_len (rv_bd (text_yes hl hr))
    obtain ⟨_, _, _, _, _, p2, hz, _⟩ := rasterB_yes hr
    have h2 : (rText r c n zs).data.toList.length = (jn (r :: c :: zs)).length := by rw [(text_yes hl hr).2]
    rw [show (rText r c n zs).data.toList.length = (rText r c n zs).size from Array.length_toList] at h2
    simp only [List.length_cons] at h1
    omega
theorem text_rvc {r c : Int} {n : Nat} {zs : List Int} (hl : zs.length = n) {R C : Int} {L : List Int} {ok : Bool} (h : RVC (rText r c n zs).data.toList R C L ok) :
    (rasterB r c n zs = true ∧ ok = true ∧ R = r ∧ C = c ∧ L = zs) ∨ (rasterB r c n zs = false ∧ ok = false ∧ R = 0 ∧ C = 0 ∧ L = []) := by
  cases hr : rasterB r c n zs
  · right
    rcases h with ⟨rfl, h⟩ | ⟨rfl, rfl, rfl, rfl, h⟩
    · exfalso
      have h1 := h.2
      unfold rText at h1
      rw [if_neg (by rw [hr]; decide)] at h1
      have h2 := jn_pos (L := R :: C :: L) (by simp) (fun x hx => (rv_bd h x hx).1)
      rw [← h1] at h2
      simp at h2
    · exact ⟨rfl, rfl, rfl, rfl, rfl⟩
  · left
    obtain ⟨e1, e2, e3, e4⟩ := rvc_one h (.inl ⟨rfl, text_yes hl hr⟩)
    exact ⟨rfl, e4, e1, e2, e3⟩
theorem blank_rast {r c g : Int} (h : blankB r c g = true) : rasterB r c (List.replicate (r * c).toNat g).length (List.replicate (r * c).toNat g) = true := by
  obtain ⟨h1, h2⟩ : sizeB r c = true ∧ inB g 0 255 = true := by simpa [blankB] using h
  obtain ⟨a1, a2, a3, a4, a5, a6⟩ := sizeB_yes h1
  simp only [rasterB, Bool.and_eq_true, decide_eq_true_eq, List.all_eq_true]
  refine ⟨h1, by rw [List.length_replicate]; omega, fun x hx => ?_⟩
  rw [(List.mem_replicate.1 hx).2]
  exact h2
theorem blank_bd {r c g : Int} (h : blankB r c g = true) : 1 ≤ r ∧ r ≤ 400 ∧ 1 ≤ c ∧ c ≤ 400 := by
  obtain ⟨h1, h2⟩ : sizeB r c = true ∧ inB g 0 255 = true := by simpa [blankB] using h
  obtain ⟨a1, a2, a3, a4, a5, a6⟩ := sizeB_yes h1
  exact ⟨a1, a2, a3, a4⟩
theorem blank_pix {r c g : Int} (h : blankB r c g = true) : pixE r c (List.replicate (r * c).toNat g).length (List.replicate (r * c).toNat g) (r - 1) (c - 1) = 0 ∧ pixO r c (List.replicate (r * c).toNat g).length (List.replicate (r * c).toNat g) (r - 1) (c - 1) = g := by
  have h0 := blank_rast h
  obtain ⟨a1, a2, a3, a4⟩ := blank_bd h
  have i1 : inB (r - 1) 0 (r - 1) = true := inB_iff.2 ⟨by omega, by omega⟩
  have i2 : inB (c - 1) 0 (c - 1) = true := inB_iff.2 ⟨by omega, by omega⟩
  unfold pixE pixO
  rw [h0, i1, i2]
  refine ⟨rfl, ?_⟩
  show pixV c _ (r - 1) (c - 1) = g
  unfold pixV
  have e : (r - 1) * c + (c - 1) = r * c - 1 := by rw [Int.sub_mul]; omega
  have hp : 1 ≤ r * c := by
    have := Int.mul_le_mul a1 a3 (by omega) (by omega)
    omega
  rw [e, List.getD_eq_getElem?_getD, List.getElem?_replicate]
  rw [if_pos (by omega)]
  rfl
end Go.Proofs.YtcpicgcdefnhaaaDoor
