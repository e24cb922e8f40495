/-
  DERIVED. Two rasters drawn for PasteRaster.
-/
import Derived.Test.YtdbecdgiafjkfaaDRastS
import Derived.Test.YtdbecdgiafjkfaaRegI
import Derived.Test.YtdbecdgiafjkfaaDTurnR
import Derived.Test.YtdbecdgiafjkfaaCrop3
import Derived.Test.YtdbecdgiafjkfaaRast2
import Derived.Deep.Cut
namespace Go.Proofs.Ytdbecdgiafjkfaa
open Go.RowKit
set_option linter.unusedVariables false
theorem KX.cell {W wr : World} {base g b i : Nat} (h : KX W wr base g) (h1 : b < base) (h2 : b ≠ g) : wr.cell? ⟨b, i, none⟩ = W.cell? ⟨b, i, none⟩ := World.cell?_of_block (a := ⟨b, i, none⟩) (h.2 b h1 h2)
theorem KX.frz {W wr : World} {base g b i : Nat} (h : KX W wr base g) (h1 : b < base) (h2 : b ≠ g) : wr.frozen? ⟨b, i, none⟩ = W.frozen? ⟨b, i, none⟩ := World.frozen?_of_block (a := ⟨b, i, none⟩) (h.2 b h1 h2)
theorem KX.box3 {W wr : World} {base g b : Nat} {x y z : Value} (h : KX W wr base g) (h3 : Box3 W b x y z) (h1 : b < base) (h2 : b ≠ g) : Box3 wr b x y z :=
  ⟨Nat.lt_of_lt_of_le h3.1 h.1, (h.cell h1 h2).trans h3.2.1, (h.cell h1 h2).trans h3.2.2.1, (h.cell h1 h2).trans h3.2.2.2⟩
theorem KX.rd {W wr : World} {base g n : Nat} {a : Option Addr} {zs : List Int} (h : KX W wr base g) (hr : Rd W a n zs) (h1 : ∀ b off, a = some ⟨b, off, none⟩ → 0 < n → b < base ∧ b ≠ g) : Rd wr a n zs :=
  ⟨hr.1, fun hp => by
    obtain ⟨b, off, e, hlt, hc⟩ := hr.2 hp
    obtain ⟨p, q⟩ := h1 b off e hp
    exact ⟨b, off, e, Nat.lt_of_lt_of_le hlt h.1, fun i hi => (h.cell p q).trans (hc i hi)⟩⟩
theorem KX.low {W wr : World} {base lo g : Nat} (h : KX W wr base g) (hl : lo ≤ base) : KX W wr lo g := ⟨h.1, fun b h1 h2 => h.2 b (by omega) h2⟩
/-- What lies from lo to base, but for the source, is as it was. -/
def DSK (W : World) (lo base g : Nat) (wr : World) : Prop := W.heap.size ≤ wr.heap.size ∧ ∀ b, lo ≤ b → b < base → b ≠ g → wr.heap[b]? = W.heap[b]?
theorem DSK.nxt {W wr w1 : World} {lo base g : Nat} (h : DSK W lo base g wr) (hg : wr.grownBy w1 (some g)) (hb : base ≤ W.heap.size) : DSK W lo base g w1 :=
  ⟨Nat.le_trans h.1 hg.size, fun b h1 h2 h3 => (hg.block b (by have := h.1; omega) (fun e => by injection e with e; exact h3 e)).trans (h.2 b h1 h2 h3)⟩
theorem DSK.set {W wr : World} {lo base g b i : Nat} {v : Value} (h : DSK W lo base g wr) (h1 : b < lo) : DSK W lo base g (wr.setCell ⟨b, i, none⟩ v) :=
  ⟨by simpa using h.1, fun c h3 h4 h5 => (Below.heap_setCell wr ⟨b, i, none⟩ v c (by show c ≠ b; omega)).trans (h.2 c h3 h4 h5)⟩
theorem DSK.cell {W wr : World} {lo base g b i : Nat} (h : DSK W lo base g wr) (h1 : lo ≤ b) (h2 : b < base) (h3 : b ≠ g) : wr.cell? ⟨b, i, none⟩ = W.cell? ⟨b, i, none⟩ := World.cell?_of_block (a := ⟨b, i, none⟩) (h.2 b h1 h2 h3)
theorem frz3_new (w : World) (t : TypeId) (x y z : Value) : ∀ i, i < 3 → (w.alloc (.cells #[x, y, z] t)).frozen? ⟨w.heap.size, i, none⟩ = false := by
  intro i hi
  rcases i with _ | _ | _ | i
  · simp [go_sem]
  · simp [go_sem]
  · simp [go_sem]
  · omega
theorem sCropAny (r c ro co rs cs : Int) (a : Option Addr) (n cp : Nat) (zs : List Int) (w : World) (h : Rd w a n zs) (hn : n ≤ 1048576) (hc : n ≤ cp) :
    Calls Try.prog 83 #[.agg #[.int .i64 r, .int .i64 c, .slice a n cp], .int .i64 ro, .int .i64 co, .int .i64 rs, .int .i64 cs] w (fun e w' => ∃ (R C code : Int) (L : List Int), ResG w R C L code e w') := by
  cases hr : rasterB r c n zs
  · exact (sCropRaster_no r c a n cp zs ro co rs cs w h hn hr).mono fun e w' h => ⟨_, _, _, _, h⟩
  · cases hw : withinB r c ro co rs cs
    · exact (sCropRaster_rng r c a n cp zs ro co rs cs w h hn hr hw).mono fun e w' h => ⟨_, _, _, _, h⟩
    · exact (sCropRaster_ok r c a n cp zs ro co rs cs w h hn hc hr hw).mono fun e w' h => ⟨_, _, _, _, h⟩
theorem below_nxt2 {g : Nat} {w wr w1 : World} (h : Below w.heap.size w wr) (hg : wr.grownBy w1 (some g)) (hB2 : w.heap.size ≤ g) : Below w.heap.size w w1 := below_nxt h hg h.size hB2
def DrawnPaste (w : World) (e : Ending) (w' : World) : Prop := ∃ (r c : Int) (a : Option Addr) (n cp : Nat) (zs : List Int) (r' c' : Int) (a' : Option Addr) (n' cp' : Nat) (zs' : List Int) (y x : Int),
  e = .returned (.tuple #[.agg #[.int .i64 r, .int .i64 c, .slice a n cp], .agg #[.int .i64 r', .int .i64 c', .slice a' n' cp'], .int .i64 y, .int .i64 x]) ∧ n ≤ 1048576 ∧ n' ≤ 1048576 ∧ n ≤ cp ∧ n' ≤ cp' ∧ Rd w' a n zs ∧ Rd w' a' n' zs' ∧ Below w.heap.size w w'
set_option maxRecDepth 100000 in
set_option maxHeartbeats 8000000 in
theorem dPaste (a : Option Addr) (n cp : Nat) (w : World) (h : BytesIn w a n w.heap.size) (hn : n ≤ 1048576) : Calls Try.prog 33 #[.slice a n cp] w (DrawnPaste w) := by
  have HO1 := Lib.hid (Out3.new w 26)
  have HO2 := Lib.hid (Out3.new (w.alloc (.cells #[.int .i64 0, .int .i64 0, .slice none 0 0] 26)) 26)
  have hk0 : Below w.heap.size w ((w.alloc (.cells #[.int .i64 0, .int .i64 0, .slice none 0 0] 26)).alloc (.cells #[.int .i64 0, .int .i64 0, .slice none 0 0] 26)) := by repeat' (first | (with_reducible exact Below.refl _ _) | (with_reducible assumption) | (with_reducible refine Below.alloc ?_ ?_ _) | (with_reducible refine Below.setCell ?_ ?_ _) | (with_reducible refine Below.drew ?_) | (with_reducible refine below_drewN ?_ _) | (with_reducible refine below_via (by with_reducible assumption) ?_ ?_) | go_size)
  have HBY := Lib.hid ((h.kept (fun b hb => hk0.block b hb)).up (show w.heap.size ≤ ((w.alloc (.cells #[.int .i64 0, .int .i64 0, .slice none 0 0] 26)).alloc (.cells #[.int .i64 0, .int .i64 0, .slice none 0 0] 26)).heap.size by simp; omega))
  clear h
  go_enter Try.func33, Try.ntmps33
  go_wp2_with fail
  obtain ⟨W0, hW0⟩ : ∃ W0 : World, W0 = (w.alloc (.cells #[.int .i64 0, .int .i64 0, .slice none 0 0] 26)).alloc (.cells #[.int .i64 0, .int .i64 0, .slice none 0 0] 26) := ⟨_, rfl⟩
  have hO1 : Hid (Out3 W0 w.heap.size) := by rw [hW0]; exact HO1.out.keep ((Below.refl _ _).alloc (Nat.le_refl _) _)
  have hO2 : Hid (Out3 W0 (w.heap.size + 1)) := by rw [hW0]; have := HO2.out; simp only [World.size_alloc] at this; exact this
  have hz0 : W0.heap.size = w.heap.size + 2 := by rw [hW0]; simp
  rw [← hW0] at HBY hk0 ⊢
  have HK0 := Lib.hid hk0
  clear hW0 HO1 HO2 hk0
  refine (sFrom a n cp _ HBY.out hn).mono ?_
  rintro e w1 ⟨g, rfl, hgl, hs1, hb1⟩
  have hz1 := hb1.size
  have HS1 := Lib.hid hs1
  have HX1 := Lib.hid hb1
  clear hs1 hb1 HBY
  go_wp2_with fail
  refine (dRastS g _ HS1.out W0 HX1.out hgl).mono ?_
  rintro e w2 ⟨r, c, a3, n3, c3, zs, rfl, hn3, hc3, hr3, hb3, hf3, hk3⟩
  have HR3 := Lib.hid hr3
  have HX3 := Lib.hid hb3
  have HF3 := Lib.hid hf3
  have HK3 := Lib.hid hk3
  have hz3 := hk3.2.1
  have hgw := HS1.out.lt
  have bP := Lib.hid (Box3.new w2 26 (.int .i64 r) (.int .i64 c) (.slice a3 n3 c3))
  clear hr3 hb3 hf3 hk3
  go_wp2_with fail
  obtain ⟨W2, hW2⟩ : ∃ W2 : World, W2 = w2.alloc (.cells #[.int .i64 r, .int .i64 c, .slice a3 n3 c3] 26) := ⟨_, rfl⟩
  have hBa : Below w2.heap.size w2 W2 := by rw [hW2]; exact (Below.refl _ _).alloc (Nat.le_refl _) _
  have bP2 : Hid (Box3 W2 w2.heap.size (.int .i64 r) (.int .i64 c) (.slice a3 n3 c3)) := by rw [hW2]; exact bP.out
  have HR4 := Lib.hid (HR3.out.below hBa)
  have hz4 : W2.heap.size = w2.heap.size + 1 := by rw [hW2]; simp
  have HX4 : Hid (Below W0.heap.size W0 W2) := HX3.out.trans (hBa.mono (by have := HX3.out.size; omega))
  have HS4 : Hid (Src W2 g) := HK3.out.1.keep hBa
  have HFL : Hid (∀ b off, a3 = some ⟨b, off, none⟩ → 0 < n3 → b < W2.heap.size) := HR4.out.lt
  rw [← hW2]
  clear hW2 bP HR3 HX3 hBa
  refine (dRastS g _ HS4.out W0 HX4.out hgl).mono ?_
  rintro e w3 ⟨r', c', a4, n4, c4, zs', rfl, hn4, hc4, hr4, hb4, hf4, hk4⟩
  have HR5 := Lib.hid hr4
  have HX5 := Lib.hid hb4
  have HF5 := Lib.hid hf4
  have hz5 := hk4.2.1
  have bP3 : Hid (Box3 w3 w2.heap.size (.int .i64 r) (.int .i64 c) (.slice a3 n3 c3)) := hk4.2.box3 bP2.out (by omega) (by omega)
  have HR6 : Hid (Rd w3 a3 n3 zs) := hk4.2.rd HR4.out (fun b off e hp => ⟨HFL.out b off e hp, by have := HF3.out b off e; omega⟩)
  have HS5 := Lib.hid hk4.1
  clear hr4 hb4 hf4 hk4 HR4 HX4 HS4 HK3 HS1 HX1 bP2
  have bQ := Lib.hid (Box3.new w3 26 (.int .i64 r') (.int .i64 c') (.slice a4 n4 c4))
  go_wp2_with fail
  obtain ⟨W3, hW3⟩ : ∃ W3 : World, W3 = w3.alloc (.cells #[.int .i64 r', .int .i64 c', .slice a4 n4 c4] 26) := ⟨_, rfl⟩
  have hBa : Below w3.heap.size w3 W3 := by rw [hW3]; exact (Below.refl _ _).alloc (Nat.le_refl _) _
  have hz6 : W3.heap.size = w3.heap.size + 1 := by rw [hW3]; simp
  have bP4 : Hid (Box3 W3 w2.heap.size (.int .i64 r) (.int .i64 c) (.slice a3 n3 c3)) := bP3.out.keep hBa
  have bQ4 : Hid (Box3 W3 w3.heap.size (.int .i64 r') (.int .i64 c') (.slice a4 n4 c4)) := by rw [hW3]; exact bQ.out
  have fQ4 : Hid (∀ i, i < 3 → W3.frozen? ⟨w3.heap.size, i, none⟩ = false) := by rw [hW3]; exact frz3_new w3 26 _ _ _
  have HP7 : Hid (Rd W3 a3 n3 zs) := HR6.out.below hBa
  have HQ7 : Hid (Rd W3 a4 n4 zs') := HR5.out.below hBa
  have HX7 : Hid (Below W0.heap.size W0 W3) := HX5.out.trans (hBa.mono (by have := HX5.out.size; omega))
  have HS7 : Hid (Src W3 g) := HS5.out.keep hBa
  have HFQ : Hid (∀ b off, a4 = some ⟨b, off, none⟩ → 0 < n4 → b < W3.heap.size) := HQ7.out.lt
  rw [← hW3]
  clear hW3 bQ bP3 HR5 HR6 HX5 HS5 hBa
  have hx := bQ4.out
  obtain ⟨_, _, _, _⟩ := hx
  cases hqr : rasterB r' c' n4 zs'
  · go_wp2_with fail
    refine (sIsRaster r' c' a4 n4 c4 zs' _ HQ7.out (by omega)).mono ?_
    rintro e wz ⟨rfl, hb4⟩
    rw [hqr]
    have HSz : Hid (Src wz g) := HS7.out.keep hb4
    have HKz : Hid (KX W3 wz w3.heap.size g) := KX.low ((KX.refl W3 W3.heap.size g).below hb4 (Nat.le_refl _)) (by omega)
    have HBQ : Hid (Box3 wz w3.heap.size (.int .i64 r') (.int .i64 c') (.slice a4 n4 c4)) := bQ4.out.keep hb4
    have HQ : Hid (Rd wz a4 n4 zs') := HQ7.out.below hb4
    have HFq : Hid (∀ b off, a4 = some ⟨b, off, none⟩ → 0 < n4 → W2.heap.size ≤ b) := fun b off e _ => HF5.out b off e
    have HFPz : Hid (∀ b off, a3 = some ⟨b, off, none⟩ → 0 < n3 → b < wz.heap.size ∧ b ≠ g) := fun b off e hp => ⟨by have := HFL.out b off e hp; have := hb4.size; omega, by have := HF3.out b off e; omega⟩
    have HFQz : Hid (∀ b off, a4 = some ⟨b, off, none⟩ → 0 < n4 → b < wz.heap.size ∧ b ≠ g) := fun b off e hp => ⟨HQ.out.lt b off e hp, by have := HF5.out b off e; omega⟩
    have HBz : Hid (Below w.heap.size w wz) := HK0.out.trans ((HX7.out.trans (hb4.mono (by have := HX7.out.size; omega))).mono (by omega))
    have HC2 : n4 ≤ c4 := hc4
    have HN2 : n4 ≤ 1048576 := by omega
    clear hb4 hqr
    have HO1z : Hid (Out3 wz w.heap.size) := HKz.out.out3 (hO1.out.below HX7.out (by omega)) (by omega) (by omega)
    have HO2z : Hid (Out3 wz (w.heap.size + 1)) := HKz.out.out3 (hO2.out.below HX7.out (by omega)) (by omega) (by omega)
    have HBP : Hid (Box3 wz w2.heap.size (.int .i64 r) (.int .i64 c) (.slice a3 n3 c3)) := HKz.out.box3 bP4.out (by omega) (by omega)
    have HP : Hid (Rd wz a3 n3 zs) := HKz.out.rd HP7.out (fun b off e hp => ⟨by have := HFL.out b off e hp; omega, by have := HF3.out b off e; omega⟩)
    have hzz := HKz.out.1
    have HST : Hid (∀ w', DSK wz (w.heap.size + 2) wz.heap.size g w' → DSK wz (w.heap.size + 2) wz.heap.size g w' ∧ w'.cell? ⟨w2.heap.size, 0, none⟩ = some (.int .i64 r) ∧ w'.cell? ⟨w2.heap.size, 1, none⟩ = some (.int .i64 c) ∧ w'.cell? ⟨w2.heap.size, 2, none⟩ = some (.slice a3 n3 c3) ∧ w'.cell? ⟨w3.heap.size, 0, none⟩ = some (.int .i64 r') ∧ w'.cell? ⟨w3.heap.size, 1, none⟩ = some (.int .i64 c') ∧ w'.cell? ⟨w3.heap.size, 2, none⟩ = some (.slice a4 n4 c4)) := fun w' h => ⟨h, (h.cell (by omega) (by omega) (by omega)).trans HBP.out.2.1, (h.cell (by omega) (by omega) (by omega)).trans HBP.out.2.2.1, (h.cell (by omega) (by omega) (by omega)).trans HBP.out.2.2.2, (h.cell (by omega) (by omega) (by omega)).trans HBQ.out.2.1, (h.cell (by omega) (by omega) (by omega)).trans HBQ.out.2.2.1, (h.cell (by omega) (by omega) (by omega)).trans HBQ.out.2.2.2⟩
    have HD0 : Hid (DSK wz (w.heap.size + 2) wz.heap.size g wz) := ⟨Nat.le_refl _, fun _ _ _ _ => rfl⟩
    have HSd : Hid (Src wz.drew g) := HSz.out.kept (Nat.le_refl _) (fun _ _ => rfl)
    have HDd : Hid (DSK wz (w.heap.size + 2) wz.heap.size g wz.drew) := ⟨Nat.le_refl _, fun _ _ _ _ => rfl⟩
    have HO1d : Hid (Out3 wz.drew w.heap.size) := HO1z.out.keep (Below.refl _ _).drew
    have HO2d : Hid (Out3 wz.drew (w.heap.size + 1)) := HO2z.out.keep (Below.refl _ _).drew
    have HBd : Hid (Below w.heap.size w wz.drew) := HBz.out.drew
    have HKd : Hid (KX wz wz.drew wz.heap.size g) := KX.refl wz _ g
    have hgl2 : w.heap.size + 2 ≤ g := by omega
    go_wp2_with fail
    go_region_held3 (fun w' => DSK wz (w.heap.size + 2) wz.heap.size g w' ∧ w'.cell? ⟨w2.heap.size, 0, none⟩ = some (.int .i64 r) ∧ w'.cell? ⟨w2.heap.size, 1, none⟩ = some (.int .i64 c) ∧ w'.cell? ⟨w2.heap.size, 2, none⟩ = some (.slice a3 n3 c3) ∧ w'.cell? ⟨w3.heap.size, 0, none⟩ = some (.int .i64 r') ∧ w'.cell? ⟨w3.heap.size, 1, none⟩ = some (.int .i64 c') ∧ w'.cell? ⟨w3.heap.size, 2, none⟩ = some (.slice a4 n4 c4)) (exact HST.out _ (by repeat' (first | (with_reducible assumption) | (with_reducible exact HDd.out) | (with_reducible refine DSK.set ?_ ?_) | omega))) (first | (go_at_call 81; refine (sNext g _ _ (by first | (with_reducible assumption) | (with_reducible exact HSd.out))).mono ?_; rintro e w' ⟨x, rfl, xa, xb, -, hs, hg⟩; have hk' := DSK.nxt (W := wz) (lo := w.heap.size + 2) (base := wz.heap.size) (by first | (with_reducible assumption) | (with_reducible exact HDd.out)) hg (Nat.le_refl _); have hbl := below_nxt2 (w := w) (by first | (with_reducible assumption) | (with_reducible exact HBd.out)) hg (by omega); have hkx := KX.nxt (W := wz) (base := wz.heap.size) (by first | (with_reducible assumption) | (with_reducible exact HKd.out)) hg (Nat.le_refl _); have hq1 := Out3.nxt (b := w.heap.size) (by first | (with_reducible assumption) | (with_reducible exact HO1d.out)) hg (by omega); have hq2 := Out3.nxt (b := w.heap.size + 1) (by first | (with_reducible assumption) | (with_reducible exact HO2d.out)) hg (by omega); have hr1 := hq1; have hr2 := hq2; obtain ⟨_, _, _, _, _, _, _⟩ := hr1; obtain ⟨_, _, _, _, _, _, _⟩ := hr2))
    have HKX := Lib.hid hkx
    have hszk := hkx.1
    have HBL := Lib.hid hbl
    clear hbl
    clear hkx hk' hq1 hq2 hg hs
    go_wp2
    (try simp only [Exit.inBlock, Exit.then])
    refine bodyPost_ret (v := .tuple #[.agg #[.int .i64 r, .int .i64 c, .slice a3 n3 c3], .agg #[.int .i64 r', .int .i64 c', .slice a4 n4 c4], _, _]) (by simp [results, Try.results33, go_sem, *]; exact ⟨rfl, rfl⟩) rfl ?_
    refine ⟨_, _, _, _, _, _, _, _, _, _, _, _, _, _, rfl, by omega, HN2, hc3, HC2, rd_nxt (rd_nxt (HKX.out.rd HP.out HFPz.out) (only_setCell (only_setCell (only_setCell (World.grownBy.refl _ (some w.heap.size)) _) _) _) ?_) (only_setCell (only_setCell (only_setCell (World.grownBy.refl _ (some (w.heap.size + 1))) _) _) _) ?_, rd_nxt (rd_nxt (HKX.out.rd HQ.out HFQz.out) (only_setCell (only_setCell (only_setCell (World.grownBy.refl _ (some w.heap.size)) _) _) _) ?_) (only_setCell (only_setCell (only_setCell (World.grownBy.refl _ (some (w.heap.size + 1))) _) _) _) ?_, ?_⟩
    · intro b off e hp; have := HF3.out b off e; omega
    · intro b off e hp; have := HF3.out b off e; omega
    · intro b off e hp; have := HFq.out b off e hp; omega
    · intro b off e hp; have := HFq.out b off e hp; omega
    · have hbw := HBL.out
      have hbs := hbw.size
      repeat' (first | (with_reducible exact Below.refl _ _) | (with_reducible assumption) | (with_reducible refine Below.alloc ?_ ?_ _) | (with_reducible refine Below.setCell ?_ ?_ _) | (with_reducible refine Below.drew ?_) | (with_reducible refine below_drewN ?_ _) | (with_reducible refine below_via (by with_reducible assumption) ?_ ?_) | go_size)
  · go_wp2_with fail
    refine (sIsRaster r' c' a4 n4 c4 zs' _ HQ7.out (by omega)).mono ?_
    rintro e w4 ⟨rfl, hb4⟩
    rw [hqr]
    have hb8 := hb4.size
    have HS8 : Hid (Src w4 g) := HS7.out.keep hb4
    have HK8 : Hid (KX W3 w4 W3.heap.size g) := (KX.refl W3 W3.heap.size g).below hb4 (Nat.le_refl _)
    have HB8 : Hid (Below w.heap.size w w4) := HK0.out.trans ((HX7.out.trans (hb4.mono (by have := HX7.out.size; omega))).mono (by omega))
    clear hb4 hqr
    go_wp2_with fail
    refine (sNext g 3 _ HS8.out).mono ?_
    rintro e w5 ⟨x3, rfl, xa3, xb3, -, hs5, hg5⟩
    have HSz : Hid (Src w5 g) := hs5
    have HK9 := Lib.hid (HK8.out.nxt hg5 (Nat.le_refl _))
    have HBz := Lib.hid (below_nxt2 HB8.out hg5 (by omega))
    have hb9 := hg5.size
    clear hs5 hg5
    have HBQ : Hid (Box3 w5 w3.heap.size (.int .i64 r') (.int .i64 c') (.slice a4 n4 c4)) := HK9.out.box3 bQ4.out (by omega) (by omega)
    have HQ : Hid (Rd w5 a4 n4 zs') := HK9.out.rd HQ7.out (fun b off e hp => ⟨HFQ.out b off e hp, by have := HF5.out b off e; omega⟩)
    by_cases hx : 0 < x3
    · have hbq := HBQ.out
      obtain ⟨_, _, _, _⟩ := hbq
      have y0 : w5.frozen? ⟨w3.heap.size, 0, none⟩ = false := (HK9.out.frz (by omega) (by omega)).trans (fQ4.out 0 (by omega))
      have y1 : w5.frozen? ⟨w3.heap.size, 1, none⟩ = false := (HK9.out.frz (by omega) (by omega)).trans (fQ4.out 1 (by omega))
      have y2 : w5.frozen? ⟨w3.heap.size, 2, none⟩ = false := (HK9.out.frz (by omega) (by omega)).trans (fQ4.out 2 (by omega))
      go_wp2_with fail
      all_goals
        refine (sCropAny _ _ _ _ _ _ _ _ _ zs' _ HQ.out (by omega) hc4).mono ?_
        rintro e w6 ⟨R2, C2, cd2, Z2, A2, P2, rfl, ho2, hb6, HN2⟩
        have HC2 := own_cap ho2
        have hob2 := own_block ho2
        obtain ⟨hq0, hq1, hq2, hq3⟩ := HBQ.out.keep hb6
        obtain ⟨hc6, hf6⟩ := bcell hb6
        have hsz6 := hb6.size
        have HO2 := Lib.hid ho2
        have HB6 := Lib.hid hb6
        have HOB := Lib.hid hob2
        clear ho2 hb6 hob2
        go_wp2_with fail
        obtain ⟨wz, hwz⟩ : ∃ wz : World, wz = (((w6.setCell ⟨w3.heap.size, 0, none⟩ (.int .i64 R2)).setCell ⟨w3.heap.size, 1, none⟩ (.int .i64 C2)).setCell ⟨w3.heap.size, 2, none⟩ (.slice A2 Z2.length P2)) := ⟨_, rfl⟩
        have hgz : w6.grownBy wz (some w3.heap.size) := by rw [hwz]; exact only_setCell (only_setCell (only_setCell (World.grownBy.refl w6 _) _) _) _
        have HBz0 := HBz
        have HSz0 := HSz
        have HBQ0 := HBQ
        have HQ0 := HQ
        clear HBz HSz HBQ HQ
        have HSz : Hid (Src wz g) := (HSz0.out.keep HB6.out).grown hgz (fun j e => by injection e with e; omega)
        have HKz : Hid (KX W3 wz w3.heap.size g) := (KX.low (HK9.out.below HB6.out (Nat.le_refl _)) (by omega)).grown hgz (fun j e => by injection e with e; omega) (by omega)
        have HBQ : Hid (Box3 wz w3.heap.size (.int .i64 R2) (.int .i64 C2) (.slice A2 Z2.length P2)) := by rw [hwz]; exact store3 hq0 hq1 hq2 hq3
        have HQ : Hid (Rd wz A2 Z2.length Z2) := rd_nxt (own_rd HO2.out) hgz (fun b off e hp => by have := own_fresh HO2.out hp b off e; omega)
        have HFq : Hid (∀ b off, A2 = some ⟨b, off, none⟩ → 0 < Z2.length → W2.heap.size ≤ b) := fun b off e hp => by have := own_fresh HO2.out hp b off e; omega
        have hszz := hgz.size
        have HFPz : Hid (∀ b off, a3 = some ⟨b, off, none⟩ → 0 < n3 → b < wz.heap.size ∧ b ≠ g) := fun b off e hp => ⟨by have := HFL.out b off e hp; omega, by have := HF3.out b off e; omega⟩
        have HFQz : Hid (∀ b off, A2 = some ⟨b, off, none⟩ → 0 < Z2.length → b < wz.heap.size ∧ b ≠ g) := fun b off e hp => ⟨HQ.out.lt b off e hp, by have := HFq.out b off e hp; omega⟩
        have HBz : Hid (Below w.heap.size w wz) := (HBz0.out.trans (HB6.out.mono HBz0.out.size)).grown hgz (by have := HBz0.out.size; omega) (fun j e => by injection e with e; omega)
        rw [← hwz]
        clear hwz hq0 hq1 hq2 hq3 hc6 hf6 y0 y1 y2
        have HO1z : Hid (Out3 wz w.heap.size) := HKz.out.out3 (hO1.out.below HX7.out (by omega)) (by omega) (by omega)
        have HO2z : Hid (Out3 wz (w.heap.size + 1)) := HKz.out.out3 (hO2.out.below HX7.out (by omega)) (by omega) (by omega)
        have HBP : Hid (Box3 wz w2.heap.size (.int .i64 r) (.int .i64 c) (.slice a3 n3 c3)) := HKz.out.box3 bP4.out (by omega) (by omega)
        have HP : Hid (Rd wz a3 n3 zs) := HKz.out.rd HP7.out (fun b off e hp => ⟨by have := HFL.out b off e hp; omega, by have := HF3.out b off e; omega⟩)
        have hzz := HKz.out.1
        have HST : Hid (∀ w', DSK wz (w.heap.size + 2) wz.heap.size g w' → DSK wz (w.heap.size + 2) wz.heap.size g w' ∧ w'.cell? ⟨w2.heap.size, 0, none⟩ = some (.int .i64 r) ∧ w'.cell? ⟨w2.heap.size, 1, none⟩ = some (.int .i64 c) ∧ w'.cell? ⟨w2.heap.size, 2, none⟩ = some (.slice a3 n3 c3) ∧ w'.cell? ⟨w3.heap.size, 0, none⟩ = some (.int .i64 R2) ∧ w'.cell? ⟨w3.heap.size, 1, none⟩ = some (.int .i64 C2) ∧ w'.cell? ⟨w3.heap.size, 2, none⟩ = some (.slice A2 Z2.length P2)) := fun w' h => ⟨h, (h.cell (by omega) (by omega) (by omega)).trans HBP.out.2.1, (h.cell (by omega) (by omega) (by omega)).trans HBP.out.2.2.1, (h.cell (by omega) (by omega) (by omega)).trans HBP.out.2.2.2, (h.cell (by omega) (by omega) (by omega)).trans HBQ.out.2.1, (h.cell (by omega) (by omega) (by omega)).trans HBQ.out.2.2.1, (h.cell (by omega) (by omega) (by omega)).trans HBQ.out.2.2.2⟩
        have HD0 : Hid (DSK wz (w.heap.size + 2) wz.heap.size g wz) := ⟨Nat.le_refl _, fun _ _ _ _ => rfl⟩
        have HSd : Hid (Src wz.drew g) := HSz.out.kept (Nat.le_refl _) (fun _ _ => rfl)
        have HDd : Hid (DSK wz (w.heap.size + 2) wz.heap.size g wz.drew) := ⟨Nat.le_refl _, fun _ _ _ _ => rfl⟩
        have HO1d : Hid (Out3 wz.drew w.heap.size) := HO1z.out.keep (Below.refl _ _).drew
        have HO2d : Hid (Out3 wz.drew (w.heap.size + 1)) := HO2z.out.keep (Below.refl _ _).drew
        have HBd : Hid (Below w.heap.size w wz.drew) := HBz.out.drew
        have HKd : Hid (KX wz wz.drew wz.heap.size g) := KX.refl wz _ g
        have hgl2 : w.heap.size + 2 ≤ g := by omega
        go_region_held3 (fun w' => DSK wz (w.heap.size + 2) wz.heap.size g w' ∧ w'.cell? ⟨w2.heap.size, 0, none⟩ = some (.int .i64 r) ∧ w'.cell? ⟨w2.heap.size, 1, none⟩ = some (.int .i64 c) ∧ w'.cell? ⟨w2.heap.size, 2, none⟩ = some (.slice a3 n3 c3) ∧ w'.cell? ⟨w3.heap.size, 0, none⟩ = some (.int .i64 R2) ∧ w'.cell? ⟨w3.heap.size, 1, none⟩ = some (.int .i64 C2) ∧ w'.cell? ⟨w3.heap.size, 2, none⟩ = some (.slice A2 Z2.length P2)) (exact HST.out _ (by repeat' (first | (with_reducible assumption) | (with_reducible exact HDd.out) | (with_reducible refine DSK.set ?_ ?_) | omega))) (first | (go_at_call 81; refine (sNext g _ _ (by first | (with_reducible assumption) | (with_reducible exact HSd.out))).mono ?_; rintro e w' ⟨x, rfl, xa, xb, -, hs, hg⟩; have hk' := DSK.nxt (W := wz) (lo := w.heap.size + 2) (base := wz.heap.size) (by first | (with_reducible assumption) | (with_reducible exact HDd.out)) hg (Nat.le_refl _); have hbl := below_nxt2 (w := w) (by first | (with_reducible assumption) | (with_reducible exact HBd.out)) hg (by omega); have hkx := KX.nxt (W := wz) (base := wz.heap.size) (by first | (with_reducible assumption) | (with_reducible exact HKd.out)) hg (Nat.le_refl _); have hq1 := Out3.nxt (b := w.heap.size) (by first | (with_reducible assumption) | (with_reducible exact HO1d.out)) hg (by omega); have hq2 := Out3.nxt (b := w.heap.size + 1) (by first | (with_reducible assumption) | (with_reducible exact HO2d.out)) hg (by omega); have hr1 := hq1; have hr2 := hq2; obtain ⟨_, _, _, _, _, _, _⟩ := hr1; obtain ⟨_, _, _, _, _, _, _⟩ := hr2))
        have HKX := Lib.hid hkx
        have hszk := hkx.1
        have HBL := Lib.hid hbl
        clear hbl
        clear hkx hk' hq1 hq2 hg hs
        go_wp2
        (try simp only [Exit.inBlock, Exit.then])
        refine bodyPost_ret (v := .tuple #[.agg #[.int .i64 r, .int .i64 c, .slice a3 n3 c3], .agg #[.int .i64 R2, .int .i64 C2, .slice A2 Z2.length P2], _, _]) (by simp [results, Try.results33, go_sem, *]; exact ⟨rfl, rfl⟩) rfl ?_
        refine ⟨_, _, _, _, _, _, _, _, _, _, _, _, _, _, rfl, by omega, HN2, hc3, HC2, rd_nxt (rd_nxt (HKX.out.rd HP.out HFPz.out) (only_setCell (only_setCell (only_setCell (World.grownBy.refl _ (some w.heap.size)) _) _) _) ?_) (only_setCell (only_setCell (only_setCell (World.grownBy.refl _ (some (w.heap.size + 1))) _) _) _) ?_, rd_nxt (rd_nxt (HKX.out.rd HQ.out HFQz.out) (only_setCell (only_setCell (only_setCell (World.grownBy.refl _ (some w.heap.size)) _) _) _) ?_) (only_setCell (only_setCell (only_setCell (World.grownBy.refl _ (some (w.heap.size + 1))) _) _) _) ?_, ?_⟩
        · intro b off e hp; have := HF3.out b off e; omega
        · intro b off e hp; have := HF3.out b off e; omega
        · intro b off e hp; have := HFq.out b off e hp; omega
        · intro b off e hp; have := HFq.out b off e hp; omega
        · have hbw := HBL.out
          have hbs := hbw.size
          repeat' (first | (with_reducible exact Below.refl _ _) | (with_reducible assumption) | (with_reducible refine Below.alloc ?_ ?_ _) | (with_reducible refine Below.setCell ?_ ?_ _) | (with_reducible refine Below.drew ?_) | (with_reducible refine below_drewN ?_ _) | (with_reducible refine below_via (by with_reducible assumption) ?_ ?_) | go_size)
    · have HKz : Hid (KX W3 w5 w3.heap.size g) := KX.low HK9.out (by omega)
      have HFq : Hid (∀ b off, a4 = some ⟨b, off, none⟩ → 0 < n4 → W2.heap.size ≤ b) := fun b off e _ => HF5.out b off e
      have HFPz : Hid (∀ b off, a3 = some ⟨b, off, none⟩ → 0 < n3 → b < w5.heap.size ∧ b ≠ g) := fun b off e hp => ⟨by have := HFL.out b off e hp; omega, by have := HF3.out b off e; omega⟩
      have HFQz : Hid (∀ b off, a4 = some ⟨b, off, none⟩ → 0 < n4 → b < w5.heap.size ∧ b ≠ g) := fun b off e hp => ⟨HQ.out.lt b off e hp, by have := HF5.out b off e; omega⟩
      have HC2 : n4 ≤ c4 := hc4
      have HN2 : n4 ≤ 1048576 := by omega
      obtain ⟨wz, rfl⟩ : ∃ wz : World, wz = w5 := ⟨_, rfl⟩
      have HO1z : Hid (Out3 wz w.heap.size) := HKz.out.out3 (hO1.out.below HX7.out (by omega)) (by omega) (by omega)
      have HO2z : Hid (Out3 wz (w.heap.size + 1)) := HKz.out.out3 (hO2.out.below HX7.out (by omega)) (by omega) (by omega)
      have HBP : Hid (Box3 wz w2.heap.size (.int .i64 r) (.int .i64 c) (.slice a3 n3 c3)) := HKz.out.box3 bP4.out (by omega) (by omega)
      have HP : Hid (Rd wz a3 n3 zs) := HKz.out.rd HP7.out (fun b off e hp => ⟨by have := HFL.out b off e hp; omega, by have := HF3.out b off e; omega⟩)
      have hzz := HKz.out.1
      have HST : Hid (∀ w', DSK wz (w.heap.size + 2) wz.heap.size g w' → DSK wz (w.heap.size + 2) wz.heap.size g w' ∧ w'.cell? ⟨w2.heap.size, 0, none⟩ = some (.int .i64 r) ∧ w'.cell? ⟨w2.heap.size, 1, none⟩ = some (.int .i64 c) ∧ w'.cell? ⟨w2.heap.size, 2, none⟩ = some (.slice a3 n3 c3) ∧ w'.cell? ⟨w3.heap.size, 0, none⟩ = some (.int .i64 r') ∧ w'.cell? ⟨w3.heap.size, 1, none⟩ = some (.int .i64 c') ∧ w'.cell? ⟨w3.heap.size, 2, none⟩ = some (.slice a4 n4 c4)) := fun w' h => ⟨h, (h.cell (by omega) (by omega) (by omega)).trans HBP.out.2.1, (h.cell (by omega) (by omega) (by omega)).trans HBP.out.2.2.1, (h.cell (by omega) (by omega) (by omega)).trans HBP.out.2.2.2, (h.cell (by omega) (by omega) (by omega)).trans HBQ.out.2.1, (h.cell (by omega) (by omega) (by omega)).trans HBQ.out.2.2.1, (h.cell (by omega) (by omega) (by omega)).trans HBQ.out.2.2.2⟩
      have HD0 : Hid (DSK wz (w.heap.size + 2) wz.heap.size g wz) := ⟨Nat.le_refl _, fun _ _ _ _ => rfl⟩
      have HSd : Hid (Src wz.drew g) := HSz.out.kept (Nat.le_refl _) (fun _ _ => rfl)
      have HDd : Hid (DSK wz (w.heap.size + 2) wz.heap.size g wz.drew) := ⟨Nat.le_refl _, fun _ _ _ _ => rfl⟩
      have HO1d : Hid (Out3 wz.drew w.heap.size) := HO1z.out.keep (Below.refl _ _).drew
      have HO2d : Hid (Out3 wz.drew (w.heap.size + 1)) := HO2z.out.keep (Below.refl _ _).drew
      have HBd : Hid (Below w.heap.size w wz.drew) := HBz.out.drew
      have HKd : Hid (KX wz wz.drew wz.heap.size g) := KX.refl wz _ g
      have hgl2 : w.heap.size + 2 ≤ g := by omega
      go_wp2_with fail
      go_region_held3 (fun w' => DSK wz (w.heap.size + 2) wz.heap.size g w' ∧ w'.cell? ⟨w2.heap.size, 0, none⟩ = some (.int .i64 r) ∧ w'.cell? ⟨w2.heap.size, 1, none⟩ = some (.int .i64 c) ∧ w'.cell? ⟨w2.heap.size, 2, none⟩ = some (.slice a3 n3 c3) ∧ w'.cell? ⟨w3.heap.size, 0, none⟩ = some (.int .i64 r') ∧ w'.cell? ⟨w3.heap.size, 1, none⟩ = some (.int .i64 c') ∧ w'.cell? ⟨w3.heap.size, 2, none⟩ = some (.slice a4 n4 c4)) (exact HST.out _ (by repeat' (first | (with_reducible assumption) | (with_reducible exact HDd.out) | (with_reducible refine DSK.set ?_ ?_) | omega))) (first | (go_at_call 81; refine (sNext g _ _ (by first | (with_reducible assumption) | (with_reducible exact HSd.out))).mono ?_; rintro e w' ⟨x, rfl, xa, xb, -, hs, hg⟩; have hk' := DSK.nxt (W := wz) (lo := w.heap.size + 2) (base := wz.heap.size) (by first | (with_reducible assumption) | (with_reducible exact HDd.out)) hg (Nat.le_refl _); have hbl := below_nxt2 (w := w) (by first | (with_reducible assumption) | (with_reducible exact HBd.out)) hg (by omega); have hkx := KX.nxt (W := wz) (base := wz.heap.size) (by first | (with_reducible assumption) | (with_reducible exact HKd.out)) hg (Nat.le_refl _); have hq1 := Out3.nxt (b := w.heap.size) (by first | (with_reducible assumption) | (with_reducible exact HO1d.out)) hg (by omega); have hq2 := Out3.nxt (b := w.heap.size + 1) (by first | (with_reducible assumption) | (with_reducible exact HO2d.out)) hg (by omega); have hr1 := hq1; have hr2 := hq2; obtain ⟨_, _, _, _, _, _, _⟩ := hr1; obtain ⟨_, _, _, _, _, _, _⟩ := hr2))
      have HKX := Lib.hid hkx
      have hszk := hkx.1
      have HBL := Lib.hid hbl
      clear hbl
      clear hkx hk' hq1 hq2 hg hs
      go_wp2
      (try simp only [Exit.inBlock, Exit.then])
      refine bodyPost_ret (v := .tuple #[.agg #[.int .i64 r, .int .i64 c, .slice a3 n3 c3], .agg #[.int .i64 r', .int .i64 c', .slice a4 n4 c4], _, _]) (by simp [results, Try.results33, go_sem, *]; exact ⟨rfl, rfl⟩) rfl ?_
      refine ⟨_, _, _, _, _, _, _, _, _, _, _, _, _, _, rfl, by omega, HN2, hc3, HC2, rd_nxt (rd_nxt (HKX.out.rd HP.out HFPz.out) (only_setCell (only_setCell (only_setCell (World.grownBy.refl _ (some w.heap.size)) _) _) _) ?_) (only_setCell (only_setCell (only_setCell (World.grownBy.refl _ (some (w.heap.size + 1))) _) _) _) ?_, rd_nxt (rd_nxt (HKX.out.rd HQ.out HFQz.out) (only_setCell (only_setCell (only_setCell (World.grownBy.refl _ (some w.heap.size)) _) _) _) ?_) (only_setCell (only_setCell (only_setCell (World.grownBy.refl _ (some (w.heap.size + 1))) _) _) _) ?_, ?_⟩
      · intro b off e hp; have := HF3.out b off e; omega
      · intro b off e hp; have := HF3.out b off e; omega
      · intro b off e hp; have := HFq.out b off e hp; omega
      · intro b off e hp; have := HFq.out b off e hp; omega
      · have hbw := HBL.out
        have hbs := hbw.size
        repeat' (first | (with_reducible exact Below.refl _ _) | (with_reducible assumption) | (with_reducible refine Below.alloc ?_ ?_ _) | (with_reducible refine Below.setCell ?_ ?_ _) | (with_reducible refine Below.drew ?_) | (with_reducible refine below_drewN ?_ _) | (with_reducible refine below_via (by with_reducible assumption) ?_ ?_) | go_size)
end Go.Proofs.Ytdbecdgiafjkfaa
