/-
  DERIVED. InvertRaster: contracts.
-/
import Derived.Test.YtcpicgcdefnhaaaDoorMk
import Derived.Test.YtcpicgcdefnhaaaDoorPix
import Derived.Conc.MuLone
namespace Go.Proofs.YtcpicgcdefnhaaaDoor
open Go.RowKit
set_option linter.unusedVariables false
theorem enters_of {f : FuncId} {fn : Func} {c : Code} (hf : Tryd.prog.funcs[f]? = some fn) (hname : (fn.name == "runtime.NumGoroutine") = false) (hb : fn.body = some c) : ∀ (args : Array Value) (w : World), (callFunc f args).run Tryd.prog w = .ok (.enter f args) w := by
  intro args w
  have h1 : fn.name ≠ "runtime.NumGoroutine" := by simpa using hname
  simp [callFunc, hf, h1, hb]
theorem pixV_nat (cols i j : Nat) (zs : List Int) : pixV (cols : Int) zs (i : Int) (j : Int) = zs.getD (i * cols + j) 0 := by
  unfold pixV
  congr 1
theorem rastL_map (rows cols : Nat) (zs : List Int) (g : Int → Int) (hl : zs.length = rows * cols) (hc : 0 < cols) : rastL cols (fun i j => g (pixV (cols : Int) zs (i : Int) (j : Int))) (rows * cols) = zs.map g := by
  apply List.ext_getElem
  · simp [rastL, hl]
  · intro k h1 h2
    have hk : k < zs.length := by simpa using h2
    simp only [rastL, List.getElem_map, List.getElem_range]
    rw [pixV_nat]
    have e : k / cols * cols + k % cols = k := by rw [Nat.mul_comm]; exact Nat.div_add_mod k cols
    rw [e]
    simp [List.getD_eq_getElem?_getD, List.getElem?_eq_getElem hk]
theorem pix_bd {c : Int} {zs : List Int} {row col : Int} {n : Nat} (hl : zs.length = n) (h8 : ∀ x ∈ zs, 0 ≤ x ∧ x ≤ 255) (h1 : 0 ≤ row * c + col) (h2 : row * c + col < (n : Int)) : 0 ≤ pixV c zs row col ∧ pixV c zs row col ≤ 255 := by
  unfold pixV
  exact h8 _ (getD_mem (by omega))
end Go.Proofs.YtcpicgcdefnhaaaDoor
