/-
  FnExactCentralizerOf: for every input the law returns true. No condition.
-/
import Derived.Test.YtklnkhkfcalndaaGreatP6
namespace Go.Proofs.YtklnkhkfcalndaaGreat
open Go.ChangeShapes Go.WideShapes Go.ChangeAt Go.RowKit
set_option maxHeartbeats 4000000 in
set_option maxRecDepth 8000 in
theorem fnExactCentralizerOf_fits (P : Int) (A : Option Addr) (n c : Nat) (sq : List Int) (X : Option Addr) (m cx : Nat) (xs : List Int) (w : World) (hn : n ≤ 1048576) (hnX : m ≤ 1048576) (ha : Rd w A n (ints sq)) (hX : Rd w X m (ints xs)) :
    Calls Tryz.prog 4 #[.agg #[.int .i64 P, .slice A n c], .slice X m cx] w fun e w' => e = .returned (.bool true) ∧ Below w.heap.size w w' := by
  have hB0 : Below w.heap.size w (w.alloc (.cells #[.int .i64 P, .slice A n c] 24)) := (Below.refl _ _).alloc (Nat.le_refl _) _
  have k0 : Blk (w.alloc (.cells #[.int .i64 P, .slice A n c] 24)) w.heap.size 24 #[.int .i64 P, .slice A n c] := Blk.new _ _ _
  have hz : szL n 1048576 = 1048576 - (n : Int) := by unfold szL; rw [if_neg (by omega)]
  have dz : decide (1048576 - (n : Int) < 0) = false := by simp; omega
  have dX : decide (1048576 < (m : Int)) = false := by simp; omega
  obtain ⟨R, hR⟩ : ∃ R, R = cenR P sq xs := ⟨_, rfl⟩
  have HR := Lib.hid hR
  have hlen : (∀ x ∈ R.1, x.length ≤ 1099511627776) ∧ totL R.1 ≤ 1048576 ∧ R.1.length ≤ 1048576 := by rw [hR]; exact cenR_len P sq xs
  obtain ⟨hrows, htot, hlen⟩ := hlen
  have HROWS := Lib.hid hrows
  clear hrows
  clear hR
  go_enter Tryz.func4, Tryz.ntmps4
  go_wp2_with fail
  refine (szSpace_any P A n c 1048576 _ (by omega) (by omega) (by omega)).mono ?_
  rintro e w1 ⟨rfl, hb1⟩
  rw [hz]
  have hB1 := hB0.trans (hb1.mono (by simp))
  have k1 := k0.below hb1 k0.lt
  clear k0 hB0 hb1 hz
  obtain ⟨q0, q1⟩ := k1.two
  go_wp2_with fail
  refine (toSpace_any P A n c sq _ (by omega) (ha.below hB1)).mono ?_
  rintro e w2 ⟨S1, s1, rfl, mS1⟩
  have hB2 := hB1.trans (mS1.b.mono hB1.size)
  have k2 := k1.below mS1.b k1.lt
  clear q0 q1 k1 hB1
  obtain ⟨q0, q1⟩ := k2.two
  go_wp2_with fail
  refine (toInt64S_any X m cx xs _ (by omega) (hX.below hB2)).mono ?_
  rintro e w3 ⟨X1, cX1, rfl, mX1⟩
  replace mS1 := mS1.below mX1.b
  have hB3 := hB2.trans (mX1.b.mono hB2.size)
  have k3 := k2.below mX1.b k2.lt
  clear q0 q1 k2 hB2
  obtain ⟨q0, q1⟩ := k3.two
  go_wp2_with fail
  refine (specCentralizerOf_any P S1 n s1 sq X1 m cX1 xs _ hn hnX mS1.rd mX1.rd mX1.2.cap).mono ?_
  rintro e w4 ⟨W0, kw, cw, rfl, mW⟩
  rw [← HR.out] at mW ⊢
  clear mS1 mX1
  have hB4 := hB3.trans (mW.b.mono hB3.size)
  have k4 := k3.below mW.b k3.lt
  clear q0 q1 k3 hB3
  obtain ⟨q0, q1⟩ := k4.two
  have rW := mW.rd
  have hBW : Below w4.heap.size w4 w4 := Below.refl _ _
  clear mW
  have zS := hB4.size
  go_wp2_with fail
  refine (toSpace_any P A n c sq _ (by omega) (ha.below hB4)).mono ?_
  rintro e w5 ⟨S2, s2, rfl, mS2⟩
  have zSW := hBW.size
  have hBW_ := hBW.trans (mS2.b.mono hBW.size)
  clear hBW
  have hBW := hBW_
  clear hBW_
  have hB5 := hB4.trans (mS2.b.mono hB4.size)
  have k5 := k4.below mS2.b k4.lt
  clear q0 q1 k4 hB4
  obtain ⟨q0, q1⟩ := k5.two
  have j0 := Blk.new w5 29 #[.int .i64 P, .slice S2 n s2]
  have k6 := k5.alloc (.cells #[.int .i64 P, .slice S2 n s2] 29)
  have hB6 := hB5.alloc hB5.size (.cells #[.int .i64 P, .slice S2 n s2] 29)
  have aB : Below w5.heap.size w5 (w5.alloc (.cells #[.int .i64 P, .slice S2 n s2] 29)) := (Below.refl _ _).alloc (Nat.le_refl _) _
  have hBW_ := hBW.alloc hBW.size (.cells #[.int .i64 P, .slice S2 n s2] 29)
  clear hBW
  have hBW := hBW_
  clear hBW_
  have mS2_ := mS2.below aB
  clear mS2
  have mS2 := mS2_
  clear mS2_
  clear q0 q1 k5 hB5 aB
  obtain ⟨q0, q1⟩ := k6.two
  obtain ⟨p0, p1⟩ := j0.two
  have zX := hB6.size
  have zXW := hBW.size
  go_wp2_with fail
  refine (toInt64S_any X m cx xs _ (by omega) (hX.below hB6)).mono ?_
  rintro e w7 ⟨X2, cX2, rfl, mX2⟩
  have apSX : Apart (.slice S2 n s2) (.slice X2 m cX2) := Own.apart_of mS2.2 mX2.2 (Nat.le_refl _)
  have hB7 := hB6.trans (mX2.b.mono hB6.size)
  have k7 := k6.below mX2.b k6.lt
  have j0_ := j0.below mX2.b j0.lt
  have mS2_ := mS2.below mX2.b
  have hBW_ := hBW.trans (mX2.b.mono hBW.size)
  clear q0 q1 p0 p1 k6 hB6 j0 mS2 hBW
  have j0 := j0_
  clear j0_
  have mS2 := mS2_
  clear mS2_
  have hBW := hBW_
  clear hBW_
  obtain ⟨q0, q1⟩ := k7.two
  obtain ⟨p0, p1⟩ := j0.two
  have zG := hB7.size
  have zGW := hBW.size
  have lk := k7.lt
  have lj := j0.lt
  have lS : ∀ g, (Value.slice S2 n s2).ownBlock = some g → g < w7.heap.size := fun g h => (World.ownsRow.lt mS2.2 g h).2
  have lX : ∀ g, (Value.slice X2 m cX2).ownBlock = some g → g < w7.heap.size := fun g h => (World.ownsRow.lt mX2.2 g h).2
  go_wp2_with fail
  refine (CentralizerOf_any P S2 n s2 sq X2 m cX2 xs _ hn hnX mS2.rd mX2.rd mX2.2.cap).mono ?_
  rintro e w8 ⟨G0, kg, cg, rfl, mG⟩
  rw [← HR.out] at mG ⊢
  have hB8 := hB7.trans (mG.b.mono hB7.size)
  have k8 := k7.below mG.b k7.lt
  have j0_ := j0.below mG.b j0.lt
  have mS2_ := mS2.below mG.b
  have hBW_ := hBW.trans (mG.b.mono hBW.size)
  have mX2_ := mX2.below mG.b
  clear q0 q1 p0 p1 k7 hB7 j0 mS2 hBW mX2
  have j0 := j0_
  clear j0_
  have mS2 := mS2_
  clear mS2_
  have hBW := hBW_
  clear hBW_
  have mX2 := mX2_
  clear mX2_
  obtain ⟨q0, q1⟩ := k8.two
  obtain ⟨p0, p1⟩ := j0.two
  have hBC := mG.b.size
  have oG := mG.own
  have hkw : R.1.length = kw := rW.len
  have hkg : R.1.length = kg := mG.len
  have hkk : kg = kw := by omega
  subst hkk
  have hkg2 : kg ≤ 1048576 := by omega
  clear mG hkw hkg hlen
  go_wp2_with fail
  refine (eqInt64SS_same G0 W0 kg cg cw R.1 _ (by omega) oG.rd (rW.below hBW) HROWS.out).mono ?_
  rintro e w9 ⟨rfl, hbe⟩
  have hB9 := hB8.trans (hbe.mono hB8.size)
  have k9 := k8.below hbe k8.lt
  have j0_ := j0.below hbe j0.lt
  have mS2_ := mS2.below hbe
  have hBW_ := hBW.trans (hbe.mono hBW.size)
  have mX2_ := mX2.below hbe
  have oG_ := oG.below hbe
  have hBC_ := Nat.le_trans hBC hbe.size
  clear q0 q1 p0 p1 k8 hB8 j0 mS2 hBW mX2 oG hBC
  have j0 := j0_
  clear j0_
  have mS2 := mS2_
  clear mS2_
  have hBW := hBW_
  clear hBW_
  have mX2 := mX2_
  clear mX2_
  have oG := oG_
  clear oG_
  have hBC := hBC_
  clear hBC_
  obtain ⟨q0, q1⟩ := k9.two
  obtain ⟨p0, p1⟩ := j0.two
  clear hbe
  go_wp2_with fail
  refine wp_obs 5 [[], [], [1], [0, 1, 2], [0, 1, 2, 3]] [VIs (.agg #[.int .i64 P, .slice S2 n s2]), VIs (.agg #[.int .i64 P, .slice A n c]), VSp w P n sq, VIs (.bool true), VIs (.bool false)] (fun w' => Blk w' w.heap.size 24 #[.int .i64 P, .slice A n c] ∧ Blk w' w5.heap.size 29 #[.int .i64 P, .slice S2 n s2] ∧ Below w.heap.size w w' ∧ Below w9.heap.size w9 w') (by kernel_rfl) (by kernel_rfl) (fun _ _ h hb => ⟨h.1.below hb h.1.lt, h.2.1.below hb h.2.1.lt, h.2.2.1.trans (hb.mono h.2.2.1.size), h.2.2.2.trans (hb.mono h.2.2.2.size)⟩) (⟨k9.drew, j0.drew, hB9.drew, (Below.refl _ _).drew⟩) (fun x => ?_)
  refine obs_step (Eq.trans (by simp only [List.getElem?_toArray, List.getElem?_cons_zero]; exact rfl) rfl) rfl (fun w' hS hV K hK => ?_) ?_
  · obtain ⟨q0, q1⟩ := hS.1.two; obtain ⟨p0, p1⟩ := hS.2.1.two
    go_simp
    exact hK.out _ _ _ rfl rfl rfl (Below.refl _ _)
  simp only [List.setIfInBounds_toArray, List.set_cons_zero, List.set_cons_succ]
  refine obs_step (Eq.trans (by simp only [List.getElem?_toArray, List.getElem?_cons_succ, List.getElem?_cons_zero]; exact rfl) rfl) rfl (fun w' hS hV K hK => ?_) ?_
  · obtain ⟨q0, q1⟩ := hS.1.two; obtain ⟨p0, p1⟩ := hS.2.1.two
    go_simp
    exact hK.out _ _ _ rfl rfl rfl (Below.refl _ _)
  simp only [List.setIfInBounds_toArray, List.set_cons_zero, List.set_cons_succ]
  refine obs_step (Eq.trans (by simp only [List.getElem?_toArray, List.getElem?_cons_succ, List.getElem?_cons_zero]; exact rfl) rfl) rfl (fun w' hS hV K hK => ?_) ?_
  · have e1 : x 1 = (.agg #[.int .i64 P, .slice A n c]) := hV 1 (by decide)
    obtain ⟨q0, q1⟩ := hS.1.two; obtain ⟨p0, p1⟩ := hS.2.1.two
    go_simp
    refine (toSpace_any P A n c sq _ (by omega) (ha.below hS.2.2.1)).mono ?_
    rintro e v1 ⟨A3, c3, rfl, m3⟩
    exact hK.out _ _ _ rfl rfl ⟨_, _, rfl, m3.after hS.2.2.1⟩ m3.b
  simp only [List.setIfInBounds_toArray, List.set_cons_zero, List.set_cons_succ]
  refine obs_step (Eq.trans (by simp only [List.getElem?_toArray, List.getElem?_cons_succ, List.getElem?_cons_zero]; exact rfl) rfl) rfl (fun w' hS hV K hK => ?_) ?_
  · have e0 : x 0 = (.agg #[.int .i64 P, .slice S2 n s2]) := hV 0 (by decide)
    have e1 : x 1 = (.agg #[.int .i64 P, .slice A n c]) := hV 1 (by decide)
    obtain ⟨A2, c2, e2, h2⟩ := hV 2 (by decide)
    obtain ⟨q0, q1⟩ := hS.1.two; obtain ⟨p0, p1⟩ := hS.2.1.two
    go_simp
    refine (eqSpace_same P S2 A2 n n s2 c2 sq _ (by omega) (by omega) (mS2.rd.below hS.2.2.2) h2.rd).mono ?_
    rintro e v1 ⟨rfl, hb⟩
    exact hK.out _ _ _ rfl rfl rfl hb
  simp only [List.setIfInBounds_toArray, List.set_cons_zero, List.set_cons_succ]
  refine obs_step (Eq.trans (by simp only [List.getElem?_toArray, List.getElem?_cons_succ, List.getElem?_cons_zero]; exact rfl) rfl) rfl (fun w' hS hV K hK => ?_) ?_
  · have e0 : x 0 = (.agg #[.int .i64 P, .slice S2 n s2]) := hV 0 (by decide)
    have e1 : x 1 = (.agg #[.int .i64 P, .slice A n c]) := hV 1 (by decide)
    obtain ⟨A2, c2, e2, h2⟩ := hV 2 (by decide)
    have e3 : x 3 = (.bool true) := hV 3 (by decide)
    obtain ⟨q0, q1⟩ := hS.1.two; obtain ⟨p0, p1⟩ := hS.2.1.two
    go_simp
    exact hK.out _ _ _ rfl rfl rfl (Below.refl _ _)
  simp only [List.setIfInBounds_toArray, List.set_cons_zero, List.set_cons_succ]
  refine fun w' hS hV => ?_
  have e0 : x 0 = (.agg #[.int .i64 P, .slice S2 n s2]) := hV 0 (by decide)
  have e1 : x 1 = (.agg #[.int .i64 P, .slice A n c]) := hV 1 (by decide)
  obtain ⟨A2, c2, e2, h2⟩ := hV 2 (by decide)
  have e3 : x 3 = (.bool true) := hV 3 (by decide)
  have e4 : x 4 = (.bool false) := hV 4 (by decide)
  simp only [e0, e1, e2, e3, e4]
  clear e0 e1 e2 e3 e4
  refine wpAny_done (by kernel_rfl) ?_ _
  obtain ⟨t1, t2, t3, t4⟩ := hS
  clear q0 q1 p0 p1 k9 hB9 j0 h2
  have mS2_ := mS2.below t4
  clear mS2
  have mS2 := mS2_
  clear mS2_
  have hBW_ := hBW.trans (t4.mono hBW.size)
  clear hBW
  have hBW := hBW_
  clear hBW_
  have mX2_ := mX2.below t4
  clear mX2
  have mX2 := mX2_
  clear mX2_
  have oG_ := oG.below t4
  clear oG
  have oG := oG_
  clear oG_
  have hBC_ := Nat.le_trans hBC t4.size
  clear hBC
  have hBC := hBC_
  clear hBC_
  have k10 := t1
  have j0 := t2
  have hB10 := t3
  clear t1 t2 t3 t4
  obtain ⟨w10, rfl⟩ : ∃ W, W = w' := ⟨_, rfl⟩
  obtain ⟨q0, q1⟩ := k10.two
  obtain ⟨p0, p1⟩ := j0.two
  go_wp2_with fail
  refine (toInt64S_any X m cx xs _ (by omega) (hX.below hB10)).mono ?_
  rintro e w11 ⟨X3, cX3, rfl, mX3⟩
  have hB11 := hB10.trans (mX3.b.mono hB10.size)
  have k11 := k10.below mX3.b k10.lt
  have j0_ := j0.below mX3.b j0.lt
  have mS2_ := mS2.below mX3.b
  have hBW_ := hBW.trans (mX3.b.mono hBW.size)
  have mX2_ := mX2.below mX3.b
  have oG_ := oG.below mX3.b
  have hBC_ := Nat.le_trans hBC mX3.b.size
  clear q0 q1 p0 p1 k10 hB10 j0 mS2 hBW mX2 oG hBC
  have j0 := j0_
  clear j0_
  have mS2 := mS2_
  clear mS2_
  have hBW := hBW_
  clear hBW_
  have mX2 := mX2_
  clear mX2_
  have oG := oG_
  clear oG_
  have hBC := hBC_
  clear hBC_
  obtain ⟨q0, q1⟩ := k11.two
  obtain ⟨p0, p1⟩ := j0.two
  go_wp2_with fail
  refine (eqInt64S_same X2 X3 m m cX2 cX3 xs _ (by omega) (by omega) mX2.rd mX3.rd).mono ?_
  rintro e w12 ⟨rfl, hbe⟩
  clear mX3
  have hB12 := hB11.trans (hbe.mono hB11.size)
  have k12 := k11.below hbe k11.lt
  have j0_ := j0.below hbe j0.lt
  have mS2_ := mS2.below hbe
  have hBW_ := hBW.trans (hbe.mono hBW.size)
  have mX2_ := mX2.below hbe
  have oG_ := oG.below hbe
  have hBC_ := Nat.le_trans hBC hbe.size
  clear q0 q1 p0 p1 k11 hB11 j0 mS2 hBW mX2 oG hBC
  have j0 := j0_
  clear j0_
  have mS2 := mS2_
  clear mS2_
  have hBW := hBW_
  clear hBW_
  have mX2 := mX2_
  clear mX2_
  have oG := oG_
  clear oG_
  have hBC := hBC_
  clear hBC_
  obtain ⟨q0, q1⟩ := k12.two
  obtain ⟨p0, p1⟩ := j0.two
  clear hbe
  have oS := mS2.2
  clear mS2
  have oX := mX2.2
  clear mX2
  have zB := hB12.size
  go_wp2_with fail
  refine (markSpace_any _ P S2 n s2 sq 1 _ (by omega) (by omega) (by omega) oS).mono ?_
  rintro e w13 ⟨rfl, om, hg⟩
  have k13 := k12.grown hg (Own.ne_blk oS k12 (by decide))
  have j0_ := j0.grown hg (Own.ne_blk oS j0 (by decide))
  have hB13 := (oS.base (B' := w.heap.size) (by omega)).grown_below hg hB12 hB12.size
  have oX_ := oX.grown hg (apSX.symm.symm.row)
  have oG_ := oG.grown hg lS
  have hBW_ := (oS.base (B' := w4.heap.size) zSW).grown_below hg hBW hBW.size
  clear hBW
  have hBW := hBW_
  clear hBW_
  have hBC_ := Nat.le_trans hBC hg.size
  clear hBC
  have hBC := hBC_
  clear hBC_
  clear q0 q1 p0 p1 k12 hB12 j0 hg oS oX oG
  have j0 := j0_
  clear j0_
  have oX := oX_
  clear oX_
  have oG := oG_
  clear oG_
  have oS := om
  clear om
  obtain ⟨q0, q1⟩ := k13.two
  obtain ⟨p0, p1⟩ := j0.two
  go_wp2_with fail
  refine (markInt64S_any _ X2 m cX2 xs (1 + (n : Int)) _ (by omega) (by omega) (by omega) oX).mono ?_
  rintro e w14 ⟨rfl, om, hg⟩
  have k14 := k13.grown hg (Own.ne_blk oX k13 (by decide))
  have j0_ := j0.grown hg (Own.ne_blk oX j0 (by decide))
  have hB14 := (oX.base (B' := w.heap.size) (by omega)).grown_below hg hB13 hB13.size
  have oS_ := oS.grown hg (apSX.symm.row)
  have oG_ := oG.grown hg lX
  have hBW_ := (oX.base (B' := w4.heap.size) zXW).grown_below hg hBW hBW.size
  clear hBW
  have hBW := hBW_
  clear hBW_
  have hBC_ := Nat.le_trans hBC hg.size
  clear hBC
  have hBC := hBC_
  clear hBC_
  clear q0 q1 p0 p1 k13 hB13 j0 hg oS oX oG
  have j0 := j0_
  clear j0_
  have oS := oS_
  clear oS_
  have oG := oG_
  clear oG_
  have oX := om
  clear om
  obtain ⟨q0, q1⟩ := k14.two
  obtain ⟨p0, p1⟩ := j0.two
  have dk : decide ((1 + (n : Int)) + (m : Int) < 0) = false := by simp; omega
  go_wp2_with fail
  refine (eqInt64SS_same G0 W0 kg cg cw R.1 _ (by omega) oG.rd (rW.below hBW) HROWS.out).mono ?_
  rintro e w15 ⟨rfl, hbe⟩
  have hB15 := hB14.trans (hbe.mono hB14.size)
  have k15 := k14.below hbe k14.lt
  have j0_ := j0.below hbe j0.lt
  have oS_ := oS.below hbe
  have oX_ := oX.below hbe
  have oG_ := oG.below hbe
  have hBW_ := hBW.trans (hbe.mono hBW.size)
  have hBC_ := Nat.le_trans hBC hbe.size
  clear q0 q1 p0 p1 k14 hB14 j0 oS oX oG hBW hBC
  have j0 := j0_
  clear j0_
  have oS := oS_
  clear oS_
  have oX := oX_
  clear oX_
  have oG := oG_
  clear oG_
  have hBW := hBW_
  clear hBW_
  have hBC := hBC_
  clear hBC_
  obtain ⟨q0, q1⟩ := k15.two
  obtain ⟨p0, p1⟩ := j0.two
  clear hbe dk
  have hszG : w7.heap.size ≤ w15.heap.size := hBC
  go_wp2_with fail
  refine (markInt64SS_any w7.heap.size G0 kg cg R.1 1 _ (by omega) (by omega) (by omega) oG hszG HROWS.out).mono ?_
  rintro e w16 ⟨rfl, om, hbG⟩
  have k16 := k15.below hbG lk
  have j0_ := j0.below hbG lj
  have hB16 := hB15.trans (hbG.mono zG)
  have hBW_ := hBW.trans (hbG.mono zGW)
  clear q0 q1 p0 p1 k15 hB15 j0 hBW hbG oG hszG hBC oS oX
  have j0 := j0_
  have hBW := hBW_
  have oG := om
  clear j0_ hBW_ om
  obtain ⟨q0, q1⟩ := k16.two
  obtain ⟨p0, p1⟩ := j0.two
  have dg : decide (1 + (totL R.1 : Int) < 0) = false := by simp; omega
  go_wp2_with fail
  refine (heldInt64SS_any G0 kg cg R.1 1 _ (by omega) (by omega) (by omega) oG.rd HROWS.out).mono ?_
  rintro e w17 ⟨rfl, rfl⟩
  go_wp2_with fail
  refine (toSpace_any P A n c sq _ (by omega) (ha.below hB16)).mono ?_
  rintro e w17 ⟨S4, s4, rfl, mS4⟩
  have hB17 := hB16.trans (mS4.b.mono hB16.size)
  have k17 := k16.below mS4.b k16.lt
  have j0_ := j0.below mS4.b j0.lt
  have oG_ := oG.below mS4.b
  have hBW_ := hBW.trans (mS4.b.mono hBW.size)
  clear q0 q1 p0 p1 k16 hB16 j0 oG hBW
  have j0 := j0_
  clear j0_
  have oG := oG_
  clear oG_
  have hBW := hBW_
  clear hBW_
  obtain ⟨q0, q1⟩ := k17.two
  obtain ⟨p0, p1⟩ := j0.two
  go_wp2_with fail
  refine (toInt64S_any X m cx xs _ (by omega) (hX.below hB17)).mono ?_
  rintro e w18 ⟨X4, cX4, rfl, mX4⟩
  have hB18 := hB17.trans (mX4.b.mono hB17.size)
  have k18 := k17.below mX4.b k17.lt
  have j0_ := j0.below mX4.b j0.lt
  have oG_ := oG.below mX4.b
  have hBW_ := hBW.trans (mX4.b.mono hBW.size)
  have mS4_ := mS4.below mX4.b
  clear q0 q1 p0 p1 k17 hB17 j0 oG hBW mS4
  have j0 := j0_
  clear j0_
  have oG := oG_
  clear oG_
  have hBW := hBW_
  clear hBW_
  have mS4 := mS4_
  clear mS4_
  obtain ⟨q0, q1⟩ := k18.two
  obtain ⟨p0, p1⟩ := j0.two
  go_wp2_with fail
  refine (CentralizerOf_any P S4 n s4 sq X4 m cX4 xs _ hn hnX mS4.rd mX4.rd mX4.2.cap).mono ?_
  rintro e w19 ⟨G1, k1g, c1g, rfl, mG1⟩
  rw [← HR.out] at mG1 ⊢
  have hB19 := hB18.trans (mG1.b.mono hB18.size)
  have k19 := k18.below mG1.b k18.lt
  have j0_ := j0.below mG1.b j0.lt
  have oG_ := oG.below mG1.b
  have hBW_ := hBW.trans (mG1.b.mono hBW.size)
  clear q0 q1 p0 p1 k18 hB18 j0 oG hBW
  have j0 := j0_
  clear j0_
  have oG := oG_
  clear oG_
  have hBW := hBW_
  clear hBW_
  obtain ⟨q0, q1⟩ := k19.two
  obtain ⟨p0, p1⟩ := j0.two
  have hk1 : R.1.length = k1g := mG1.len
  have hk2 : R.1.length = kg := rW.len
  have hk3 : k1g = kg := by omega
  subst hk3
  go_wp2_with fail
  refine (eqInt64SS_same G1 W0 k1g c1g cw R.1 _ (by omega) mG1.rd (rW.below hBW) HROWS.out).mono ?_
  rintro e w20 ⟨rfl, hbe⟩
  have hB20 := hB19.trans (hbe.mono hB19.size)
  have k20 := k19.below hbe k19.lt
  have j0_ := j0.below hbe j0.lt
  have oG_ := oG.below hbe
  clear q0 q1 p0 p1 k19 hB19 j0 oG
  have j0 := j0_
  clear j0_
  have oG := oG_
  clear oG_
  obtain ⟨q0, q1⟩ := k20.two
  obtain ⟨p0, p1⟩ := j0.two
  clear hbe
  go_wp2_with fail
  refine (heldInt64SS_any G0 k1g cg R.1 1 _ (by omega) (by omega) (by omega) oG.rd HROWS.out).mono ?_
  rintro e w21 ⟨rfl, rfl⟩
  go_wp2
  go_ret
  exact ⟨rfl, hB20⟩
theorem fnExactCentralizerOf_all (P : Int) (A : Option Addr) (n c : Nat) (sq : List Int) (X : Option Addr) (m cx : Nat) (xs : List Int) (w : World) (hn : n ≤ 9223372036854775807) (hnX : m ≤ 9223372036854775807) (ha : Rd w A n (ints sq)) (hX : Rd w X m (ints xs)) :
    Calls Tryz.prog 4 #[.agg #[.int .i64 P, .slice A n c], .slice X m cx] w fun e w' => e = .returned (.bool true) ∧ Below w.heap.size w w' := by
  have hB0 : Below w.heap.size w (w.alloc (.cells #[.int .i64 P, .slice A n c] 24)) := (Below.refl _ _).alloc (Nat.le_refl _) _
  by_cases cX : m ≤ 1048576
  rotate_left
  · have dX : decide (1048576 < (m : Int)) = true := by simp; omega
    clear cX hnX
    go_enter Tryz.func4, Tryz.ntmps4
    go_wp2
    go_ret
    exact ⟨rfl, hB0⟩
  have dX : decide (1048576 < (m : Int)) = false := by simp; omega
  by_cases cn : n ≤ 1048576
  · exact fnExactCentralizerOf_fits P A n c sq X m cx xs w cn cX ha hX
  · have hz : szL n 1048576 = -1 := by unfold szL; rw [if_pos (by omega)]
    go_enter Tryz.func4, Tryz.ntmps4
    go_wp2_with fail
    refine (szSpace_any P A n c 1048576 _ hn (by omega) (by omega)).mono ?_
    rintro e w1 ⟨rfl, hb1⟩
    rw [hz]
    go_wp2
    go_ret
    exact ⟨rfl, hB0.trans (hb1.mono (by simp))⟩
namespace fnExactCentralizerOf
theorem own : ownKnob Tryz.prog.godebug = none := by kernel_rfl
set_option maxRecDepth 100000 in
theorem lifted (os : Os) (started : os.Started) (H : Type) (enc : TypeId × Value → H) :
    ReturnsInHanded {} Tryz.checked os 4 .any (Rows.fnExactCentralizerOfSpec.pre6 enc Tryz.prog Tryz.f4 Rows.fnExactCentralizerOfRow.domain false) (Rows.fnExactCentralizerOfSpec.post enc Tryz.prog Tryz.f4 false true false false) := by
  refine returnsInHanded_of_change (C := Tryz.checked) own started (by kernel_rfl) Tryz.func4
    (ChangeSpec.witness6 (enc := enc) (C := Tryz.checked) false ⟨#[], #[.agg #[.int .i64 0, .slice none 0 0], .slice none 0 0], []⟩ 8 (by kernel_rfl) (by kernel_rfl) (by kernel_rfl) (by kernel_rfl)) ?_
  intro W base args ds gs before hval0 hW hcnd _
  have hval : ∀ (j : Nat) t v, Tryz.f4.params[j]? = some t → args[j]? = some v → Value.okWide Tryz.prog W .any base t v := hval0
  have hW' := hW
  obtain ⟨p, q, hA0, hV, rfl, hfz, hnd⟩ := hW
  have hA : DataW.TrodAll enc Tryz.prog W 0 (fun _ => true) true Tryz.f4.params.toList args.toList ds p := hA0
  rw [Tryz.params4] at hA hval
  obtain ⟨v0, v1, d0, d1, p0, p1, rfl, rfl, rfl, h0, h1⟩ := trodAll_two hA
  obtain ⟨rfl, rfl⟩ := trodVars_none hV
  obtain ⟨cs, rfl, hsz⟩ := okWide_struct Tryz.underlying24 (hval 0 24 v0 rfl rfl)
  clear hA0 hval0
  simp only [List.append_nil] at hW'
  obtain ⟨fuel0, hf0⟩ := id h0
  obtain ⟨P, A, n, c, sq, hcs, hnc, hn, ra⟩ := openSp hf0
  have hagg : cs = #[.int .i64 P, .slice A n c] := by simp [Value.cells] at hcs; cases cs; simp at hcs; rw [hcs]
  subst hagg
  obtain ⟨X, m, cx, rfl⟩ := okWide_slice Tryz.underlying22 (hval 1 22 v1 rfl rfl)
  obtain ⟨fuel1, hf1⟩ := id h1
  obtain ⟨X', m', cx', xs, e1, hcX, hnX, hX⟩ := openI hf1
  obtain ⟨rfl, rfl, rfl⟩ : X = X' ∧ m = m' ∧ cx = cx' := by simpa [Value.cells] using e1
  refine (fnExactCentralizerOf_all P A n c sq X m cx xs W hn hnX ra hX).mono fun e' W' ⟨he, hg⟩ => ?_
  subst he
  exact ⟨_, rfl, post_below (pa := p0 ++ p1) (pv := []) hW' (fun _ _ _ => (trodAll_cons_mk (shut_bool Tryz.underlying4 _) trodAll_mk0))
    (fun sp hs => trodAll_mk2 (WideElems.Trod_stays (by kernel_rfl) (by kernel_rfl) (of_decide_eq_true (by kernel_rfl)) h0 (fun x hx => hg.same (hW'.lt x (by simp [hx]))) (fun x hx => hs x (by simp [hx]))) (WideElems.Trod_stays (by kernel_rfl) (by kernel_rfl) (of_decide_eq_true (by kernel_rfl)) h1 (fun x hx => hg.same (hW'.lt x (by simp [hx]))) (fun x hx => hs x (by simp [hx])))) (fun _ _ => rfl) (by simp) hg
    (ok_one (by kernel_rfl) rfl (okWide_bool_mk Tryz.underlying4 _))⟩
theorem over : Rows.fnExactCentralizerOfRow.holds Tryz.pinned (OpenSpec.ofChange Rows.fnExactCentralizerOfSpec) :=
  OpenClaim.holds_of_wide 4 Tryz.f4 rfl rfl rfl rfl rfl rfl rfl ⟨rfl, rfl, rfl, rfl, rfl⟩ rfl rfl rfl rfl rfl (by kernel_rfl) Tryz.func4 (by kernel_rfl)
    (of_decide_eq_true (by kernel_rfl)) (by unfold Func.isWrapper; first | (rw [if_pos (by decide +kernel)]; kernel_rfl) | (rw [if_neg (by decide +kernel)]; exact ⟨rfl, rfl⟩))
    (fun os started H enc _ => lifted os started H enc)
theorem proved : Rows.FnExactCentralizerOfSaid := over
#print axioms proved
end fnExactCentralizerOf
end Go.Proofs.YtklnkhkfcalndaaGreat
