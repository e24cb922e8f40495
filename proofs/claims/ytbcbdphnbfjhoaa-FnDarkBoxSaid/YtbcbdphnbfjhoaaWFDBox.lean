/-
  DERIVED. The walk of FnDarkBox.
-/
import Derived.Test.YtbcbdphnbfjhoaaDDBox
import Derived.Test.YtbcbdphnbfjhoaaBoxT
import Derived.Test.YtbcbdphnbfjhoaaQNeq
import Derived.Test.YtbcbdphnbfjhoaaWDarkBox
import Derived.Test.YtbcbdphnbfjhoaaWSections
import Derived.Conc.MuLone
import Derived.Laws.StructEq
import Derived.BigQuiet
namespace Go.Proofs.Ytbcbdphnbfjhoaa
open Go.RowKit
set_option linter.unusedVariables false
theorem Q8.cells {w : World} {g : Nat} {a1 a2 a3 a4 a5 a6 a7 a8 : Int} (h : Q8 w g a1 a2 a3 a4 a5 a6 a7 a8) : w.cell? ⟨g, 0, none⟩ = some (.int .i64 a1) ∧ w.cell? ⟨g, 1, none⟩ = some (.int .i64 a2) ∧ w.cell? ⟨g, 4, none⟩ = some (.int .i64 a5) ∧ w.cell? ⟨g, 5, none⟩ = some (.int .i64 a6) := by
  have h2 := h.2
  exact ⟨by simpa using h2 0 _ rfl, by simpa using h2 1 _ rfl, by simpa using h2 4 _ rfl, by simpa using h2 5 _ rfl⟩
theorem Q8.all {w : World} {g : Nat} {a1 a2 a3 a4 a5 a6 a7 a8 : Int} (h : Q8 w g a1 a2 a3 a4 a5 a6 a7 a8) : w.cell? ⟨g, 0, none⟩ = some (.int .i64 a1) ∧ w.cell? ⟨g, 1, none⟩ = some (.int .i64 a2) ∧ w.cell? ⟨g, 2, none⟩ = some (.int .i64 a3) ∧ w.cell? ⟨g, 3, none⟩ = some (.int .i64 a4) ∧ w.cell? ⟨g, 4, none⟩ = some (.int .i64 a5) ∧ w.cell? ⟨g, 5, none⟩ = some (.int .i64 a6) ∧ w.cell? ⟨g, 6, none⟩ = some (.int .i64 a7) ∧ w.cell? ⟨g, 7, none⟩ = some (.int .i64 a8) := by
  have h2 := h.2
  exact ⟨by simpa using h2 0 _ rfl, by simpa using h2 1 _ rfl, by simpa using h2 2 _ rfl, by simpa using h2 3 _ rfl, by simpa using h2 4 _ rfl, by simpa using h2 5 _ rfl, by simpa using h2 6 _ rfl, by simpa using h2 7 _ rfl⟩
set_option maxRecDepth 100000 in
set_option maxHeartbeats 16000000 in
theorem walk_FnDarkBox (code_a : Option Addr) (code_n code_c : Nat) (code_z : List Int) (w : World) (h_code : Ints .u8 w code_a code_n code_c code_z) :
    Calls Try.prog 7 #[.slice code_a code_n code_c] w fun e w' => e = .returned (.bool true) ∧ Below w.heap.size w w' := by
  have hmx := h_code.max
  have HBY := Lib.hid h_code.bytes
  clear h_code
  by_cases hbig : 4096 < code_n
  · have tb : decide ((4096 : Int) < (code_n : Int)) = true := by simp; omega
    go_enter Try.func7, Try.ntmps7
    go_wp2_with fail
    refine (lBig _ _ _ _ hmx).mono ?_
    rintro e w' ⟨rfl, rfl⟩
    rw [tb]
    go_wp2
    go_returns
    exact ⟨rfl, by repeat' (first | (with_reducible exact Below.refl _ _) | (with_reducible assumption) | (with_reducible refine Below.alloc ?_ ?_ _) | (with_reducible refine Below.setCell ?_ ?_ _) | (with_reducible refine Below.drew ?_) | (with_reducible refine below_drewN ?_ _) | (with_reducible refine below_via (by with_reducible assumption) ?_ ?_) | go_size)⟩
  have tb : decide ((4096 : Int) < (code_n : Int)) = false := by simp; omega
  go_enter Try.func7, Try.ntmps7
  go_wp2_with fail
  refine (lBig _ _ _ _ hmx).mono ?_
  rintro e w' ⟨rfl, rfl⟩
  rw [tb]
  go_wp2_with fail
  refine (dDarkBox _ _ _ _ HBY.out (by omega)).mono ?_
  rintro e w1 ⟨r, c, ag, ng, cg, zs, rfl, hng, -, hrd, hb1, -⟩
  have hz1 := hb1.size
  have HR := Lib.hid hrd
  have HB1 := Lib.hid hb1
  have hn : ng ≤ 1048576 := by omega
  have bP := Lib.hid (Box3.new w1 28 (.int .i64 r) (.int .i64 c) (.slice ag ng cg))
  obtain ⟨a1, a2, a3, a4, a5, a6, a7, a8, code, hd⟩ : ∃ a1 a2 a3 a4 a5 a6 a7 a8 code, dbOut r c ng zs = (a1, a2, a3, a4, a5, a6, a7, a8, code) := ⟨_, _, _, _, _, _, _, _, _, rfl⟩
  have HD := Lib.hid hd
  clear hrd hd hb1
  go_wp2_with fail
  refine (iDarkBox r c _ ng cg zs _ (HR.out.below (by repeat' (first | (with_reducible exact Below.refl _ _) | (with_reducible assumption) | (with_reducible refine Below.alloc ?_ ?_ _) | (with_reducible refine Below.setCell ?_ ?_ _) | (with_reducible refine Below.drew ?_) | (with_reducible refine below_drewN ?_ _) | (with_reducible refine below_via (by with_reducible assumption) ?_ ?_) | go_size))) hn a1 a2 a3 a4 a5 a6 a7 a8 code HD.out).mono ?_
  rintro e w2 ⟨rfl, hb2⟩
  have hz2 := hb2.size; try simp at hz2
  obtain ⟨_, _, _, _⟩ := (bP.out.keep (by repeat' (first | (with_reducible exact Below.refl _ _) | (with_reducible assumption) | (with_reducible refine Below.alloc ?_ ?_ _) | (with_reducible refine Below.setCell ?_ ?_ _) | (with_reducible refine Below.drew ?_) | (with_reducible refine below_drewN ?_ _) | (with_reducible refine below_via (by with_reducible assumption) ?_ ?_) | go_size)) : Box3 w2 _ _ _ _)
  have bX := Lib.hid (Q8.new w2 44 a1 a2 a3 a4 a5 a6 a7 a8)
  go_wp2_with fail
  refine (sDarkBox r c _ ng cg zs _ (HR.out.below (by repeat' (first | (with_reducible exact Below.refl _ _) | (with_reducible assumption) | (with_reducible refine Below.alloc ?_ ?_ _) | (with_reducible refine Below.setCell ?_ ?_ _) | (with_reducible refine Below.drew ?_) | (with_reducible refine below_drewN ?_ _) | (with_reducible refine below_via (by with_reducible assumption) ?_ ?_) | go_size))) hn a1 a2 a3 a4 a5 a6 a7 a8 code HD.out).mono ?_
  rintro e w3 ⟨rfl, hb3⟩
  have hz3 := hb3.size; try simp at hz3
  have hs4 : (w3.alloc (.cells #[.int .i64 a1, .int .i64 a2, .int .i64 a3, .int .i64 a4, .int .i64 a5, .int .i64 a6, .int .i64 a7, .int .i64 a8] 44)).heap.size = w3.heap.size + 1 := by simp
  have bG := Lib.hid (Q8.new w3 44 a1 a2 a3 a4 a5 a6 a7 a8)
  have bP3 := Lib.hid (bP.out.keep (by repeat' (first | (with_reducible exact Below.refl _ _) | (with_reducible assumption) | (with_reducible refine Below.alloc ?_ ?_ _) | (with_reducible refine Below.setCell ?_ ?_ _) | (with_reducible refine Below.drew ?_) | (with_reducible refine below_drewN ?_ _) | (with_reducible refine below_via (by with_reducible assumption) ?_ ?_) | go_size)) : Box3 (w3.alloc (.cells #[.int .i64 a1, .int .i64 a2, .int .i64 a3, .int .i64 a4, .int .i64 a5, .int .i64 a6, .int .i64 a7, .int .i64 a8] 44)) _ _ _ _)
  have HR3 := Lib.hid (HR.out.below (by repeat' (first | (with_reducible exact Below.refl _ _) | (with_reducible assumption) | (with_reducible refine Below.alloc ?_ ?_ _) | (with_reducible refine Below.setCell ?_ ?_ _) | (with_reducible refine Below.drew ?_) | (with_reducible refine below_drewN ?_ _) | (with_reducible refine below_via (by with_reducible assumption) ?_ ?_) | go_size) : Below w1.heap.size w1 (w3.alloc (.cells #[.int .i64 a1, .int .i64 a2, .int .i64 a3, .int .i64 a4, .int .i64 a5, .int .i64 a6, .int .i64 a7, .int .i64 a8] 44))))
  have bX3 := Lib.hid (bX.out.keep (by repeat' (first | (with_reducible exact Below.refl _ _) | (with_reducible assumption) | (with_reducible refine Below.alloc ?_ ?_ _) | (with_reducible refine Below.setCell ?_ ?_ _) | (with_reducible refine Below.drew ?_) | (with_reducible refine below_drewN ?_ _) | (with_reducible refine below_via (by with_reducible assumption) ?_ ?_) | go_size) : Below _ _ (w3.alloc (.cells #[.int .i64 a1, .int .i64 a2, .int .i64 a3, .int .i64 a4, .int .i64 a5, .int .i64 a6, .int .i64 a7, .int .i64 a8] 44))))
  have hB3 : Below w.heap.size w (w3.alloc (.cells #[.int .i64 a1, .int .i64 a2, .int .i64 a3, .int .i64 a4, .int .i64 a5, .int .i64 a6, .int .i64 a7, .int .i64 a8] 44)) := by
    have := HB1.out
    repeat' (first | (with_reducible exact Below.refl _ _) | (with_reducible assumption) | (with_reducible refine Below.alloc ?_ ?_ _) | (with_reducible refine Below.setCell ?_ ?_ _) | (with_reducible refine Below.drew ?_) | (with_reducible refine below_drewN ?_ _) | (with_reducible refine below_via (by with_reducible assumption) ?_ ?_) | go_size)
  have hN := neqQuad a1 a2 a3 a4 a5 a6 a7 a8
  have hG := grdQuad
  have tc : (code != code) = false := by simp
  clear hb2 hb3
  by_cases hcode : code = 0
  · subst hcode
    obtain ⟨hgr, t, b, l, q, hbx, hb0, hf1, hf2, e1, e2, e5, e6⟩ := dbOut_zero HD.out
    obtain ⟨g1, g2, g3, g4, g5, g6, g7, -⟩ := gridB_yes hgr
    obtain ⟨cols, hcols⟩ := Int.eq_ofNat_of_zero_le (show 0 ≤ c by omega)
    obtain ⟨rows, hrows⟩ := Int.eq_ofNat_of_zero_le (show 0 ≤ r by omega)
    subst hcols hrows
    have hnn : ng = rows * cols := by
      have : ((rows * cols : Nat) : Int) = (rows : Int) * (cols : Int) := by simp
      omega
    have hbt := boxS_touch zs rows cols (by omega) ng (by omega) (by simpa using hbx)
    obtain ⟨hin, hto⟩ := hbt
    have HIN := Lib.hid hin
    have HTO : Hid (tB (fun j : Nat => (2 * ((j % cols : Nat) : Int) == a1)) zs ng = true ∧ tB (fun j : Nat => (2 * ((j / cols : Nat) : Int) == a2)) zs ng = true ∧ tB (fun j : Nat => (2 * ((j % cols : Nat) : Int) + 2 == a5)) zs ng = true ∧ tB (fun j : Nat => (2 * ((j / cols : Nat) : Int) + 2 == a6)) zs ng = true) := by
      rcases hto with h | ⟨_, ⟨j1, p1, d1, c1⟩, ⟨j2, p2, d2, c2⟩, ⟨j3, p3, d3, c3⟩, ⟨j4, p4, d4, c4⟩⟩
      · omega
      · exact ⟨tB_ex p1 d1 (by simp only [beq_iff_eq]; omega), tB_ex p2 d2 (by simp only [beq_iff_eq]; omega), tB_ex p3 d3 (by simp only [beq_iff_eq]; omega), tB_ex p4 d4 (by simp only [beq_iff_eq]; omega)⟩
    have HE : Hid (a1 = 2 * l ∧ a2 = 2 * t ∧ a5 = 2 * (q + 1) ∧ a6 = 2 * (b + 1)) := ⟨e1, e2, e5, e6⟩
    clear hin hto hbx hgr e1 e2 e5 e6
    have hne : ¬ (cols : Int) = 0 := by omega
    have t00 : ((0 : Int) != 0) = false := by decide
    obtain ⟨y1, y2, y3, y4, y5, y6, y7, y8⟩ := bX3.out.all
    go_wp2
    clear y1 y2 y3 y4 y5 y6 y7 y8
    generalize hWW : (w3.alloc (.cells #[.int .i64 a1, .int .i64 a2, .int .i64 a3, .int .i64 a4, .int .i64 a5, .int .i64 a6, .int .i64 a7, .int .i64 a8] 44)) = W at bG bP3 HR3 bX3 hB3 hs4 ⊢
    clear hWW
    go_loopw [9] (fun i wr => ∃ (k : Nat) (p0 p1 p2 p3 : Bool), k ≤ ng ∧ i = .int .i64 k ∧ Hid (tB (fun j : Nat => (2 * ((j % cols : Nat) : Int) == a1)) zs k = p0 ∧ tB (fun j : Nat => (2 * ((j / cols : Nat) : Int) == a2)) zs k = p1 ∧ tB (fun j : Nat => (2 * ((j % cols : Nat) : Int) + 2 == a5)) zs k = p2 ∧ tB (fun j : Nat => (2 * ((j / cols : Nat) : Int) + 2 == a6)) zs k = p3) ∧ Below W.heap.size W wr ∧ w3.heap.size + 1 < wr.heap.size ∧
      wr.cell? ⟨w3.heap.size + 1, 0, none⟩ = some (.bool p0) ∧ wr.cell? ⟨w3.heap.size + 1, 1, none⟩ = some (.bool p1) ∧ wr.cell? ⟨w3.heap.size + 1, 2, none⟩ = some (.bool p2) ∧ wr.cell? ⟨w3.heap.size + 1, 3, none⟩ = some (.bool p3) ∧
      wr.frozen? ⟨w3.heap.size + 1, 0, none⟩ = false ∧ wr.frozen? ⟨w3.heap.size + 1, 1, none⟩ = false ∧ wr.frozen? ⟨w3.heap.size + 1, 2, none⟩ = false ∧ wr.frozen? ⟨w3.heap.size + 1, 3, none⟩ = false) (fun i _ => ng - (intOf i).toNat)
    case atStart => exact ⟨0, false, false, false, false, Nat.zero_le _, rfl, ⟨rfl, rfl, rfl, rfl⟩, by repeat' (first | (with_reducible exact Below.refl _ _) | (with_reducible assumption) | (with_reducible refine Below.alloc ?_ ?_ _) | (with_reducible refine Below.setCell ?_ ?_ _) | (with_reducible refine Below.drew ?_) | (with_reducible refine below_drewN ?_ _) | (with_reducible refine below_via (by with_reducible assumption) ?_ ?_) | go_size), by simp; omega, by rw [← hs4]; simp [go_sem], by rw [← hs4]; simp [go_sem], by rw [← hs4]; simp [go_sem], by rw [← hs4]; simp [go_sem], by rw [← hs4]; simp [go_sem], by rw [← hs4]; simp [go_sem], by rw [← hs4]; simp [go_sem], by rw [← hs4]; simp [go_sem]⟩
    case round =>
      obtain ⟨k, p0, p1, p2, p3, hk, rfl, HP, hbel, hWl, d0, d1, d2, d3, f0, f1, f2, f3⟩ := hrel
      have hzz := hbel.size
      obtain ⟨b0, b1, b2, b3⟩ := bP3.out.keep hbel
      obtain ⟨x0, x1, x4, x5⟩ := (bX3.out.keep hbel).cells
      have n1 : w1.heap.size ≠ w3.heap.size + 1 := by omega
      have n2 : w2.heap.size ≠ w3.heap.size + 1 := by omega
      have n3 : w3.heap.size + 1 ≠ w1.heap.size := by omega
      have n4 : w3.heap.size + 1 ≠ w2.heap.size := by omega
      by_cases hlt : k < ng
      · obtain ⟨ba, off, rfl, hba, hcell⟩ := (HR3.out.below hbel).2 (by omega)
        have hx := hcell k hlt
        generalize hxv : zs.getD k 0 = x at hx
        have HX := Lib.hid hxv
        clear hxv hcell
        have k0 : (0 : Int) ≤ (k : Int) := Int.natCast_nonneg _
        have k1 : (k : Int) < (ng : Int) := by omega
        by_cases hone : x = 1
        · subst hone
          obtain ⟨i1, i2, i3, i4⟩ := HIN.out k hlt HX.out
          have HT : Hid ((tB (fun j : Nat => (2 * ((j % cols : Nat) : Int) == a1)) zs (k + 1) = (p0 || (2 * ((k % cols : Nat) : Int) == a1))) ∧ (tB (fun j : Nat => (2 * ((j / cols : Nat) : Int) == a2)) zs (k + 1) = (p1 || (2 * ((k / cols : Nat) : Int) == a2))) ∧ (tB (fun j : Nat => (2 * ((j % cols : Nat) : Int) + 2 == a5)) zs (k + 1) = (p2 || (2 * ((k % cols : Nat) : Int) + 2 == a5))) ∧ (tB (fun j : Nat => (2 * ((j / cols : Nat) : Int) + 2 == a6)) zs (k + 1) = (p3 || (2 * ((k / cols : Nat) : Int) + 2 == a6)))) := by
            obtain ⟨h0, h1, h2, h3⟩ := HP.out
            exact ⟨by rw [tB_yes HX.out, h0], by rw [tB_yes HX.out, h1], by rw [tB_yes HX.out, h2], by rw [tB_yes HX.out, h3]⟩
          have hq : Int.tdiv (k : Int) (cols : Int) = ((k / cols : Nat) : Int) := (Int.ofNat_tdiv k cols).symm
          have hm : Int.tmod (k : Int) (cols : Int) = ((k % cols : Nat) : Int) := (Int.ofNat_tmod k cols).symm
          have b1' : k / cols ≤ k := Nat.div_le_self _ _
          have b2' : k % cols ≤ k := Nat.mod_le _ _
          generalize k / cols = qq at hq b1' HT i1 i2 i3 i4
          generalize k % cols = mm at hm b2' HT i1 i2 i3 i4
          have w1' : IntKind.i64.wrap (qq : Int) = (qq : Int) := IntWalk.i64_in _ (by omega)
          have w2' : IntKind.i64.wrap (mm : Int) = (mm : Int) := IntWalk.i64_in _ (by omega)
          have w3' : IntKind.i64.wrap (2 * (qq : Int)) = 2 * (qq : Int) := IntWalk.i64_in _ (by omega)
          have w4' : IntKind.i64.wrap (2 * (mm : Int)) = 2 * (mm : Int) := IntWalk.i64_in _ (by omega)
          have s1 : decide (2 * (mm : Int) < a1) = false := by have := HE.out; simp; omega
          have s2 : decide (2 * (qq : Int) < a2) = false := by have := HE.out; simp; omega
          have s3 : decide (a5 < 2 * (mm : Int) + 2) = false := by have := HE.out; simp; omega
          have s4 : decide (a6 < 2 * (qq : Int) + 2) = false := by have := HE.out; simp; omega
          clear HP HD HTO HIN
          cases p0 <;> cases p1 <;> cases p2 <;> cases p3
          all_goals
            go_wp2
            go_quiet (fail)
            go_wp2
            go_roundw
            case rel =>
              exact ⟨k + 1, _, _, _, _, by omega, by go_num, HT.out, by repeat' (first | (with_reducible exact Below.refl _ _) | (with_reducible assumption) | (with_reducible refine Below.alloc ?_ ?_ _) | (with_reducible refine Below.setCell ?_ ?_ _) | (with_reducible refine Below.drew ?_) | (with_reducible refine below_drewN ?_ _) | (with_reducible refine below_via (by with_reducible assumption) ?_ ?_) | go_size), by simp; omega, by simp [go_sem, d0], by simp [go_sem, d1], by simp [go_sem, d2], by simp [go_sem, d3], by simp [go_sem, f0], by simp [go_sem, f1], by simp [go_sem, f2], by simp [go_sem, f3]⟩
            case measure => simp [intOf]; omega
        · have HT : Hid ((tB (fun j : Nat => (2 * ((j % cols : Nat) : Int) == a1)) zs (k + 1) = p0) ∧ (tB (fun j : Nat => (2 * ((j / cols : Nat) : Int) == a2)) zs (k + 1) = p1) ∧ (tB (fun j : Nat => (2 * ((j % cols : Nat) : Int) + 2 == a5)) zs (k + 1) = p2) ∧ (tB (fun j : Nat => (2 * ((j / cols : Nat) : Int) + 2 == a6)) zs (k + 1) = p3)) := by
            obtain ⟨h0, h1, h2, h3⟩ := HP.out
            exact ⟨by rw [tB_no HX.out hone, h0], by rw [tB_no HX.out hone, h1], by rw [tB_no HX.out hone, h2], by rw [tB_no HX.out hone, h3]⟩
          have t1 : (x != 1) = true := by simpa using hone
          go_wp2
          go_roundw
          case rel => exact ⟨k + 1, p0, p1, p2, p3, by omega, by go_num, HT.out, hbel, hWl, d0, d1, d2, d3, f0, f1, f2, f3⟩
          case measure => simp [intOf]; omega
      · have hkn : k = ng := by omega
        subst hkn
        obtain ⟨h0, h1, h2, h3⟩ := HP.out
        obtain ⟨j0, j1, j2, j3⟩ := HTO.out
        rw [j0] at h0
        rw [j1] at h1
        rw [j2] at h2
        rw [j3] at h3
        subst h0 h1 h2 h3
        have hBr : Below w.heap.size w wr := hB3.trans (hbel.mono (by omega))
        go_wp2
        go_returns
        exact ⟨rfl, by repeat' (first | (with_reducible exact Below.refl _ _) | (with_reducible assumption) | (with_reducible refine Below.alloc ?_ ?_ _) | (with_reducible refine Below.setCell ?_ ?_ _) | (with_reducible refine Below.drew ?_) | (with_reducible refine below_drewN ?_ _) | (with_reducible refine below_via (by with_reducible assumption) ?_ ?_) | go_size)⟩
  · have tk : (code != 0) = true := by simpa using hcode
    obtain ⟨y1, y2, y3, y4, y5, y6, y7, y8⟩ := bX3.out.all
    go_wp2
    go_returns
    exact ⟨rfl, hB3⟩
end Go.Proofs.Ytbcbdphnbfjhoaa
