/-
  FnExactCommonBlade: for every input the law returns true. No condition.
-/
import Derived.Test.YtommppijnccomaaGreatP6
namespace Go.Proofs.YtommppijnccomaaGreat
open Go.ChangeShapes Go.WideShapes Go.ChangeAt Go.RowKit
set_option maxHeartbeats 4000000 in
set_option maxRecDepth 8000 in
theorem fnExactCommonBlade_fits (P : Int) (A : Option Addr) (n c : Nat) (sq : List Int) (X : Option Addr) (m cx : Nat) (xs : List Int) (Y : Option Addr) (l cy : Nat) (ys : List Int) (w : World) (hn : n ≤ 1048576) (hnX : m ≤ 1048576) (hnY : l ≤ 1048576) (ha : Rd w A n (ints sq)) (hX : Rd w X m (ints xs)) (hY : Rd w Y l (ints ys)) :
    Calls Tryz.prog 10 #[.agg #[.int .i64 P, .slice A n c], .slice X m cx, .slice Y l cy] w fun e w' => e = .returned (.bool true) ∧ Below w.heap.size w w' := by
  have hB0 : Below w.heap.size w (w.alloc (.cells #[.int .i64 P, .slice A n c] 24)) := (Below.refl _ _).alloc (Nat.le_refl _) _
  have k0 : Blk (w.alloc (.cells #[.int .i64 P, .slice A n c] 24)) w.heap.size 24 #[.int .i64 P, .slice A n c] := Blk.new _ _ _
  have hz : szL n 1048576 = 1048576 - (n : Int) := by unfold szL; rw [if_neg (by omega)]
  have dz : decide (1048576 - (n : Int) < 0) = false := by simp; omega
  have dX : decide (1048576 < (m : Int)) = false := by simp; omega
  have dY : decide (1048576 < (l : Int)) = false := by simp; omega
  obtain ⟨R, hR⟩ : ∃ R, R = comR P sq xs ys := ⟨_, rfl⟩
  have HR := Lib.hid hR
  have hlen : R.1.length ≤ 1048576 := by rw [hR]; exact comR_len P sq xs ys
  clear hR
  go_enter Tryz.func10, Tryz.ntmps10
  go_wp2_with fail
  refine (szSpace_any P A n c 1048576 _ (by omega) (by omega) (by omega)).mono ?_
  rintro e w1 ⟨rfl, hb1⟩
  rw [hz]
  have hB1 := hB0.trans (hb1.mono (by simp))
  have k1 := k0.below hb1 k0.lt
  clear k0 hB0 hb1 hz
  obtain ⟨q0, q1⟩ := k1.two
  go_wp2_with fail
  refine (toSpace_any P A n c sq _ (by omega) (ha.below hB1)).mono ?_
  rintro e w2 ⟨S1, s1, rfl, mS1⟩
  have hB2 := hB1.trans (mS1.b.mono hB1.size)
  have k2 := k1.below mS1.b k1.lt
  clear q0 q1 k1 hB1
  obtain ⟨q0, q1⟩ := k2.two
  go_wp2_with fail
  refine (toInt64S_any X m cx xs _ (by omega) (hX.below hB2)).mono ?_
  rintro e w3 ⟨X1, cX1, rfl, mX1⟩
  replace mS1 := mS1.below mX1.b
  have hB3 := hB2.trans (mX1.b.mono hB2.size)
  have k3 := k2.below mX1.b k2.lt
  clear q0 q1 k2 hB2
  obtain ⟨q0, q1⟩ := k3.two
  go_wp2_with fail
  refine (toInt64S_any Y l cy ys _ (by omega) (hY.below hB3)).mono ?_
  rintro e w4 ⟨Y1, cY1, rfl, mY1⟩
  replace mS1 := mS1.below mY1.b
  replace mX1 := mX1.below mY1.b
  have hB4 := hB3.trans (mY1.b.mono hB3.size)
  have k4 := k3.below mY1.b k3.lt
  clear q0 q1 k3 hB3
  obtain ⟨q0, q1⟩ := k4.two
  go_wp2_with fail
  refine (specCommonBlade_any P S1 n s1 sq X1 m cX1 xs Y1 l cY1 ys _ hn hnX hnY mS1.rd mX1.rd mX1.2.cap mY1.rd mY1.2.cap).mono ?_
  rintro e w5 ⟨W0, kw, cw, rfl, mW⟩
  rw [← HR.out] at mW ⊢
  clear mS1 mX1 mY1
  have hB5 := hB4.trans (mW.b.mono hB4.size)
  have k5 := k4.below mW.b k4.lt
  clear q0 q1 k4 hB4
  obtain ⟨q0, q1⟩ := k5.two
  have oW := mW.2
  have szW := mW.b.size
  clear mW
  have zS := hB5.size
  go_wp2_with fail
  refine (toSpace_any P A n c sq _ (by omega) (ha.below hB5)).mono ?_
  rintro e w6 ⟨S2, s2, rfl, mS2⟩
  have hB6 := hB5.trans (mS2.b.mono hB5.size)
  have k6 := k5.below mS2.b k5.lt
  clear q0 q1 k5 hB5
  obtain ⟨q0, q1⟩ := k6.two
  have j0 := Blk.new w6 28 #[.int .i64 P, .slice S2 n s2]
  have k7 := k6.alloc (.cells #[.int .i64 P, .slice S2 n s2] 28)
  have hB7 := hB6.alloc hB6.size (.cells #[.int .i64 P, .slice S2 n s2] 28)
  have aB : Below w6.heap.size w6 (w6.alloc (.cells #[.int .i64 P, .slice S2 n s2] 28)) := (Below.refl _ _).alloc (Nat.le_refl _) _
  have apWS : Apart (.slice W0 kw cw) (.slice S2 n s2) := Own.apart_of oW mS2.2 (Nat.le_refl _)
  have oW1 := (oW.below mS2.b).below aB
  clear oW
  have oW := oW1
  clear oW1
  have mS2_ := mS2.below aB
  clear mS2
  have mS2 := mS2_
  clear mS2_
  clear q0 q1 k6 hB6 aB
  obtain ⟨q0, q1⟩ := k7.two
  obtain ⟨p0, p1⟩ := j0.two
  have zX := hB7.size
  go_wp2_with fail
  refine (toInt64S_any X m cx xs _ (by omega) (hX.below hB7)).mono ?_
  rintro e w8 ⟨X2, cX2, rfl, mX2⟩
  have apSX : Apart (.slice S2 n s2) (.slice X2 m cX2) := Own.apart_of mS2.2 mX2.2 (Nat.le_refl _)
  have apWX : Apart (.slice W0 kw cw) (.slice X2 m cX2) := Own.apart_of oW mX2.2 (Nat.le_refl _)
  have hB8 := hB7.trans (mX2.b.mono hB7.size)
  have k8 := k7.below mX2.b k7.lt
  have j0_ := j0.below mX2.b j0.lt
  have mS2_ := mS2.below mX2.b
  have oW_ := oW.below mX2.b
  clear q0 q1 p0 p1 k7 hB7 j0 mS2 oW
  have j0 := j0_
  clear j0_
  have mS2 := mS2_
  clear mS2_
  have oW := oW_
  clear oW_
  obtain ⟨q0, q1⟩ := k8.two
  obtain ⟨p0, p1⟩ := j0.two
  have zY := hB8.size
  go_wp2_with fail
  refine (toInt64S_any Y l cy ys _ (by omega) (hY.below hB8)).mono ?_
  rintro e w9 ⟨Y2, cY2, rfl, mY2⟩
  have apSY : Apart (.slice S2 n s2) (.slice Y2 l cY2) := Own.apart_of mS2.2 mY2.2 (Nat.le_refl _)
  have apWY : Apart (.slice W0 kw cw) (.slice Y2 l cY2) := Own.apart_of oW mY2.2 (Nat.le_refl _)
  have apXY : Apart (.slice X2 m cX2) (.slice Y2 l cY2) := Own.apart_of mX2.2 mY2.2 (Nat.le_refl _)
  have hB9 := hB8.trans (mY2.b.mono hB8.size)
  have k9 := k8.below mY2.b k8.lt
  have j0_ := j0.below mY2.b j0.lt
  have mS2_ := mS2.below mY2.b
  have oW_ := oW.below mY2.b
  have mX2_ := mX2.below mY2.b
  clear q0 q1 p0 p1 k8 hB8 j0 mS2 oW mX2
  have j0 := j0_
  clear j0_
  have mS2 := mS2_
  clear mS2_
  have oW := oW_
  clear oW_
  have mX2 := mX2_
  clear mX2_
  obtain ⟨q0, q1⟩ := k9.two
  obtain ⟨p0, p1⟩ := j0.two
  have zG := hB9.size
  go_wp2_with fail
  refine (CommonBlade_any P S2 n s2 sq X2 m cX2 xs Y2 l cY2 ys _ hn hnX hnY mS2.rd mX2.rd mX2.2.cap mY2.rd mY2.2.cap).mono ?_
  rintro e w10 ⟨G0, kg, cg, rfl, mG⟩
  rw [← HR.out] at mG ⊢
  have apSG : Apart (.slice S2 n s2) (.slice G0 kg cg) := Own.apart_of mS2.2 mG.2 (Nat.le_refl _)
  have apWG : Apart (.slice W0 kw cw) (.slice G0 kg cg) := Own.apart_of oW mG.2 (Nat.le_refl _)
  have apXG : Apart (.slice X2 m cX2) (.slice G0 kg cg) := Own.apart_of mX2.2 mG.2 (Nat.le_refl _)
  have apYG : Apart (.slice Y2 l cY2) (.slice G0 kg cg) := Own.apart_of mY2.2 mG.2 (Nat.le_refl _)
  have hB10 := hB9.trans (mG.b.mono hB9.size)
  have k10 := k9.below mG.b k9.lt
  have j0_ := j0.below mG.b j0.lt
  have mS2_ := mS2.below mG.b
  have oW_ := oW.below mG.b
  have mX2_ := mX2.below mG.b
  have mY2_ := mY2.below mG.b
  clear q0 q1 p0 p1 k9 hB9 j0 mS2 oW mX2 mY2
  have j0 := j0_
  clear j0_
  have mS2 := mS2_
  clear mS2_
  have oW := oW_
  clear oW_
  have mX2 := mX2_
  clear mX2_
  have mY2 := mY2_
  clear mY2_
  obtain ⟨q0, q1⟩ := k10.two
  obtain ⟨p0, p1⟩ := j0.two
  have oG := mG.2
  have HGL := Lib.hid (Rd.lenI mG.rd)
  have HWL := Lib.hid (Rd.lenI oW.rd)
  clear mG
  have hkg : kg ≤ 1048576 := by rw [← HGL.out]; exact hlen
  have hkw : kw ≤ 1048576 := by rw [← HWL.out]; exact hlen
  go_wp2_with fail
  refine (eqInt64S_same G0 W0 kg kw cg cw R.1 _ (by omega) (by omega) oG.rd oW.rd).mono ?_
  rintro e w11 ⟨rfl, hbe⟩
  have hB11 := hB10.trans (hbe.mono hB10.size)
  have k11 := k10.below hbe k10.lt
  have j0_ := j0.below hbe j0.lt
  have mS2_ := mS2.below hbe
  have oW_ := oW.below hbe
  have mX2_ := mX2.below hbe
  have mY2_ := mY2.below hbe
  have oG_ := oG.below hbe
  clear q0 q1 p0 p1 k10 hB10 j0 mS2 oW mX2 mY2 oG
  have j0 := j0_
  clear j0_
  have mS2 := mS2_
  clear mS2_
  have oW := oW_
  clear oW_
  have mX2 := mX2_
  clear mX2_
  have mY2 := mY2_
  clear mY2_
  have oG := oG_
  clear oG_
  obtain ⟨q0, q1⟩ := k11.two
  obtain ⟨p0, p1⟩ := j0.two
  clear hbe
  go_wp2_with fail
  refine wp_obs 5 [[], [], [1], [0, 1, 2], [0, 1, 2, 3]] [VIs (.agg #[.int .i64 P, .slice S2 n s2]), VIs (.agg #[.int .i64 P, .slice A n c]), VSp w P n sq, VIs (.bool true), VIs (.bool false)] (fun w' => Blk w' w.heap.size 24 #[.int .i64 P, .slice A n c] ∧ Blk w' w6.heap.size 28 #[.int .i64 P, .slice S2 n s2] ∧ Below w.heap.size w w' ∧ Below w11.heap.size w11 w') (by kernel_rfl) (by kernel_rfl) (fun _ _ h hb => ⟨h.1.below hb h.1.lt, h.2.1.below hb h.2.1.lt, h.2.2.1.trans (hb.mono h.2.2.1.size), h.2.2.2.trans (hb.mono h.2.2.2.size)⟩) (⟨k11.drew, j0.drew, hB11.drew, (Below.refl _ _).drew⟩) (fun x => ?_)
  refine obs_step (Eq.trans (by simp only [List.getElem?_toArray, List.getElem?_cons_zero]; exact rfl) rfl) rfl (fun w' hS hV K hK => ?_) ?_
  · obtain ⟨q0, q1⟩ := hS.1.two; obtain ⟨p0, p1⟩ := hS.2.1.two
    go_simp
    exact hK.out _ _ _ rfl rfl rfl (Below.refl _ _)
  simp only [List.setIfInBounds_toArray, List.set_cons_zero, List.set_cons_succ]
  refine obs_step (Eq.trans (by simp only [List.getElem?_toArray, List.getElem?_cons_succ, List.getElem?_cons_zero]; exact rfl) rfl) rfl (fun w' hS hV K hK => ?_) ?_
  · obtain ⟨q0, q1⟩ := hS.1.two; obtain ⟨p0, p1⟩ := hS.2.1.two
    go_simp
    exact hK.out _ _ _ rfl rfl rfl (Below.refl _ _)
  simp only [List.setIfInBounds_toArray, List.set_cons_zero, List.set_cons_succ]
  refine obs_step (Eq.trans (by simp only [List.getElem?_toArray, List.getElem?_cons_succ, List.getElem?_cons_zero]; exact rfl) rfl) rfl (fun w' hS hV K hK => ?_) ?_
  · have e1 : x 1 = (.agg #[.int .i64 P, .slice A n c]) := hV 1 (by decide)
    obtain ⟨q0, q1⟩ := hS.1.two; obtain ⟨p0, p1⟩ := hS.2.1.two
    go_simp
    refine (toSpace_any P A n c sq _ (by omega) (ha.below hS.2.2.1)).mono ?_
    rintro e v1 ⟨A3, c3, rfl, m3⟩
    exact hK.out _ _ _ rfl rfl ⟨_, _, rfl, m3.after hS.2.2.1⟩ m3.b
  simp only [List.setIfInBounds_toArray, List.set_cons_zero, List.set_cons_succ]
  refine obs_step (Eq.trans (by simp only [List.getElem?_toArray, List.getElem?_cons_succ, List.getElem?_cons_zero]; exact rfl) rfl) rfl (fun w' hS hV K hK => ?_) ?_
  · have e0 : x 0 = (.agg #[.int .i64 P, .slice S2 n s2]) := hV 0 (by decide)
    have e1 : x 1 = (.agg #[.int .i64 P, .slice A n c]) := hV 1 (by decide)
    obtain ⟨A2, c2, e2, h2⟩ := hV 2 (by decide)
    obtain ⟨q0, q1⟩ := hS.1.two; obtain ⟨p0, p1⟩ := hS.2.1.two
    go_simp
    refine (eqSpace_same P S2 A2 n n s2 c2 sq _ (by omega) (by omega) (mS2.rd.below hS.2.2.2) h2.rd).mono ?_
    rintro e v1 ⟨rfl, hb⟩
    exact hK.out _ _ _ rfl rfl rfl hb
  simp only [List.setIfInBounds_toArray, List.set_cons_zero, List.set_cons_succ]
  refine obs_step (Eq.trans (by simp only [List.getElem?_toArray, List.getElem?_cons_succ, List.getElem?_cons_zero]; exact rfl) rfl) rfl (fun w' hS hV K hK => ?_) ?_
  · have e0 : x 0 = (.agg #[.int .i64 P, .slice S2 n s2]) := hV 0 (by decide)
    have e1 : x 1 = (.agg #[.int .i64 P, .slice A n c]) := hV 1 (by decide)
    obtain ⟨A2, c2, e2, h2⟩ := hV 2 (by decide)
    have e3 : x 3 = (.bool true) := hV 3 (by decide)
    obtain ⟨q0, q1⟩ := hS.1.two; obtain ⟨p0, p1⟩ := hS.2.1.two
    go_simp
    exact hK.out _ _ _ rfl rfl rfl (Below.refl _ _)
  simp only [List.setIfInBounds_toArray, List.set_cons_zero, List.set_cons_succ]
  refine fun w' hS hV => ?_
  have e0 : x 0 = (.agg #[.int .i64 P, .slice S2 n s2]) := hV 0 (by decide)
  have e1 : x 1 = (.agg #[.int .i64 P, .slice A n c]) := hV 1 (by decide)
  obtain ⟨A2, c2, e2, h2⟩ := hV 2 (by decide)
  have e3 : x 3 = (.bool true) := hV 3 (by decide)
  have e4 : x 4 = (.bool false) := hV 4 (by decide)
  simp only [e0, e1, e2, e3, e4]
  clear e0 e1 e2 e3 e4
  refine wpAny_done (by kernel_rfl) ?_ _
  obtain ⟨t1, t2, t3, t4⟩ := hS
  clear q0 q1 p0 p1 k11 hB11 j0 h2
  have mS2_ := mS2.below t4
  clear mS2
  have mS2 := mS2_
  clear mS2_
  have oW_ := oW.below t4
  clear oW
  have oW := oW_
  clear oW_
  have mX2_ := mX2.below t4
  clear mX2
  have mX2 := mX2_
  clear mX2_
  have mY2_ := mY2.below t4
  clear mY2
  have mY2 := mY2_
  clear mY2_
  have oG_ := oG.below t4
  clear oG
  have oG := oG_
  clear oG_
  have k12 := t1
  have j0 := t2
  have hB12 := t3
  clear t1 t2 t3 t4
  obtain ⟨w12, rfl⟩ : ∃ W, W = w' := ⟨_, rfl⟩
  obtain ⟨q0, q1⟩ := k12.two
  obtain ⟨p0, p1⟩ := j0.two
  go_wp2_with fail
  refine (toInt64S_any X m cx xs _ (by omega) (hX.below hB12)).mono ?_
  rintro e w13 ⟨X3, cX3, rfl, mX3⟩
  have hB13 := hB12.trans (mX3.b.mono hB12.size)
  have k13 := k12.below mX3.b k12.lt
  have j0_ := j0.below mX3.b j0.lt
  have mS2_ := mS2.below mX3.b
  have oW_ := oW.below mX3.b
  have mX2_ := mX2.below mX3.b
  have mY2_ := mY2.below mX3.b
  have oG_ := oG.below mX3.b
  clear q0 q1 p0 p1 k12 hB12 j0 mS2 oW mX2 mY2 oG
  have j0 := j0_
  clear j0_
  have mS2 := mS2_
  clear mS2_
  have oW := oW_
  clear oW_
  have mX2 := mX2_
  clear mX2_
  have mY2 := mY2_
  clear mY2_
  have oG := oG_
  clear oG_
  obtain ⟨q0, q1⟩ := k13.two
  obtain ⟨p0, p1⟩ := j0.two
  go_wp2_with fail
  refine (eqInt64S_same X2 X3 m m cX2 cX3 xs _ (by omega) (by omega) mX2.rd mX3.rd).mono ?_
  rintro e w14 ⟨rfl, hbe⟩
  clear mX3
  have hB14 := hB13.trans (hbe.mono hB13.size)
  have k14 := k13.below hbe k13.lt
  have j0_ := j0.below hbe j0.lt
  have mS2_ := mS2.below hbe
  have oW_ := oW.below hbe
  have mX2_ := mX2.below hbe
  have mY2_ := mY2.below hbe
  have oG_ := oG.below hbe
  clear q0 q1 p0 p1 k13 hB13 j0 mS2 oW mX2 mY2 oG
  have j0 := j0_
  clear j0_
  have mS2 := mS2_
  clear mS2_
  have oW := oW_
  clear oW_
  have mX2 := mX2_
  clear mX2_
  have mY2 := mY2_
  clear mY2_
  have oG := oG_
  clear oG_
  obtain ⟨q0, q1⟩ := k14.two
  obtain ⟨p0, p1⟩ := j0.two
  clear hbe
  go_wp2_with fail
  refine (toInt64S_any Y l cy ys _ (by omega) (hY.below hB14)).mono ?_
  rintro e w15 ⟨Y3, cY3, rfl, mY3⟩
  have hB15 := hB14.trans (mY3.b.mono hB14.size)
  have k15 := k14.below mY3.b k14.lt
  have j0_ := j0.below mY3.b j0.lt
  have mS2_ := mS2.below mY3.b
  have oW_ := oW.below mY3.b
  have mX2_ := mX2.below mY3.b
  have mY2_ := mY2.below mY3.b
  have oG_ := oG.below mY3.b
  clear q0 q1 p0 p1 k14 hB14 j0 mS2 oW mX2 mY2 oG
  have j0 := j0_
  clear j0_
  have mS2 := mS2_
  clear mS2_
  have oW := oW_
  clear oW_
  have mX2 := mX2_
  clear mX2_
  have mY2 := mY2_
  clear mY2_
  have oG := oG_
  clear oG_
  obtain ⟨q0, q1⟩ := k15.two
  obtain ⟨p0, p1⟩ := j0.two
  go_wp2_with fail
  refine (eqInt64S_same Y2 Y3 l l cY2 cY3 ys _ (by omega) (by omega) mY2.rd mY3.rd).mono ?_
  rintro e w16 ⟨rfl, hbe⟩
  clear mY3
  have hB16 := hB15.trans (hbe.mono hB15.size)
  have k16 := k15.below hbe k15.lt
  have j0_ := j0.below hbe j0.lt
  have mS2_ := mS2.below hbe
  have oW_ := oW.below hbe
  have mX2_ := mX2.below hbe
  have mY2_ := mY2.below hbe
  have oG_ := oG.below hbe
  clear q0 q1 p0 p1 k15 hB15 j0 mS2 oW mX2 mY2 oG
  have j0 := j0_
  clear j0_
  have mS2 := mS2_
  clear mS2_
  have oW := oW_
  clear oW_
  have mX2 := mX2_
  clear mX2_
  have mY2 := mY2_
  clear mY2_
  have oG := oG_
  clear oG_
  obtain ⟨q0, q1⟩ := k16.two
  obtain ⟨p0, p1⟩ := j0.two
  clear hbe
  have oS := mS2.2
  clear mS2
  have oX := mX2.2
  clear mX2
  have oY := mY2.2
  clear mY2
  have zB := hB16.size
  go_wp2_with fail
  refine (markSpace_any _ P S2 n s2 sq 1 _ (by omega) (by omega) (by omega) oS).mono ?_
  rintro e w17 ⟨rfl, om, hg⟩
  have k17 := k16.grown hg (Own.ne_blk oS k16 (by decide))
  have j0_ := j0.grown hg (Own.ne_blk oS j0 (by decide))
  have hB17 := (oS.base (B' := w.heap.size) (by omega)).grown_below hg hB16 hB16.size
  have oX_ := oX.grown hg (apSX.symm.symm.row)
  have oY_ := oY.grown hg (apSY.symm.symm.row)
  have oG_ := oG.grown hg (apSG.symm.symm.row)
  have oW_ := oW.grown hg (apWS.symm.row)
  clear q0 q1 p0 p1 k16 hB16 j0 hg oS oX oY oG oW
  have j0 := j0_
  clear j0_
  have oX := oX_
  clear oX_
  have oY := oY_
  clear oY_
  have oG := oG_
  clear oG_
  have oW := oW_
  clear oW_
  have oS := om
  clear om
  obtain ⟨q0, q1⟩ := k17.two
  obtain ⟨p0, p1⟩ := j0.two
  go_wp2_with fail
  refine (markInt64S_any _ X2 m cX2 xs (1 + (n : Int)) _ (by omega) (by omega) (by omega) oX).mono ?_
  rintro e w18 ⟨rfl, om, hg⟩
  have k18 := k17.grown hg (Own.ne_blk oX k17 (by decide))
  have j0_ := j0.grown hg (Own.ne_blk oX j0 (by decide))
  have hB18 := (oX.base (B' := w.heap.size) (by omega)).grown_below hg hB17 hB17.size
  have oS_ := oS.grown hg (apSX.symm.row)
  have oY_ := oY.grown hg (apXY.symm.symm.row)
  have oG_ := oG.grown hg (apXG.symm.symm.row)
  have oW_ := oW.grown hg (apWX.symm.row)
  clear q0 q1 p0 p1 k17 hB17 j0 hg oS oX oY oG oW
  have j0 := j0_
  clear j0_
  have oS := oS_
  clear oS_
  have oY := oY_
  clear oY_
  have oG := oG_
  clear oG_
  have oW := oW_
  clear oW_
  have oX := om
  clear om
  obtain ⟨q0, q1⟩ := k18.two
  obtain ⟨p0, p1⟩ := j0.two
  go_wp2_with fail
  refine (markInt64S_any _ Y2 l cY2 ys ((1 + (n : Int)) + (m : Int)) _ (by omega) (by omega) (by omega) oY).mono ?_
  rintro e w19 ⟨rfl, om, hg⟩
  have k19 := k18.grown hg (Own.ne_blk oY k18 (by decide))
  have j0_ := j0.grown hg (Own.ne_blk oY j0 (by decide))
  have hB19 := (oY.base (B' := w.heap.size) (by omega)).grown_below hg hB18 hB18.size
  have oS_ := oS.grown hg (apSY.symm.row)
  have oX_ := oX.grown hg (apXY.symm.row)
  have oG_ := oG.grown hg (apYG.symm.symm.row)
  have oW_ := oW.grown hg (apWY.symm.row)
  clear q0 q1 p0 p1 k18 hB18 j0 hg oS oX oY oG oW
  have j0 := j0_
  clear j0_
  have oS := oS_
  clear oS_
  have oX := oX_
  clear oX_
  have oG := oG_
  clear oG_
  have oW := oW_
  clear oW_
  have oY := om
  clear om
  obtain ⟨q0, q1⟩ := k19.two
  obtain ⟨p0, p1⟩ := j0.two
  have dk : decide (((1 + (n : Int)) + (m : Int)) + (l : Int) < 0) = false := by simp; omega
  go_wp2_with fail
  refine (eqInt64S_same G0 W0 kg kw cg cw R.1 _ (by omega) (by omega) oG.rd oW.rd).mono ?_
  rintro e w20 ⟨rfl, hbe⟩
  have hB20 := hB19.trans (hbe.mono hB19.size)
  have k20 := k19.below hbe k19.lt
  have j0_ := j0.below hbe j0.lt
  have oS_ := oS.below hbe
  have oX_ := oX.below hbe
  have oY_ := oY.below hbe
  have oG_ := oG.below hbe
  have oW_ := oW.below hbe
  clear q0 q1 p0 p1 k19 hB19 j0 oS oX oY oG oW
  have j0 := j0_
  clear j0_
  have oS := oS_
  clear oS_
  have oX := oX_
  clear oX_
  have oY := oY_
  clear oY_
  have oG := oG_
  clear oG_
  have oW := oW_
  clear oW_
  obtain ⟨q0, q1⟩ := k20.two
  obtain ⟨p0, p1⟩ := j0.two
  clear hbe dk
  go_wp2_with fail
  refine (markInt64S_any _ G0 kg cg R.1 1 _ (by omega) (by omega) (by omega) oG).mono ?_
  rintro e w21 ⟨rfl, om, hg⟩
  have k21 := k20.grown hg (Own.ne_blk oG k20 (by decide))
  have j0_ := j0.grown hg (Own.ne_blk oG j0 (by decide))
  have hB21 := (oG.base (B' := w.heap.size) (by omega)).grown_below hg hB20 hB20.size
  have oS_ := oS.grown hg (apSG.symm.row)
  have oX_ := oX.grown hg (apXG.symm.row)
  have oY_ := oY.grown hg (apYG.symm.row)
  have oW_ := oW.grown hg (apWG.symm.row)
  clear q0 q1 p0 p1 k20 hB20 j0 hg oS oX oY oG oW
  have j0 := j0_
  clear j0_
  have oS := oS_
  clear oS_
  have oX := oX_
  clear oX_
  have oY := oY_
  clear oY_
  have oW := oW_
  clear oW_
  have oG := om
  clear om
  obtain ⟨q0, q1⟩ := k21.two
  obtain ⟨p0, p1⟩ := j0.two
  have dg : decide (1 + (kg : Int) < 0) = false := by simp; omega
  go_wp2_with fail
  refine (heldInt64S_any G0 kg cg 1 _ (by omega) (by omega) (by omega) oG.rd).mono ?_
  rintro e w22 ⟨rfl, rfl⟩
  go_wp2_with fail
  refine (toSpace_any P A n c sq _ (by omega) (ha.below hB21)).mono ?_
  rintro e w22 ⟨S4, s4, rfl, mS4⟩
  have hB22 := hB21.trans (mS4.b.mono hB21.size)
  have k22 := k21.below mS4.b k21.lt
  have j0_ := j0.below mS4.b j0.lt
  have oG_ := oG.below mS4.b
  have oW_ := oW.below mS4.b
  clear q0 q1 p0 p1 k21 hB21 j0 oG oW
  have j0 := j0_
  clear j0_
  have oG := oG_
  clear oG_
  have oW := oW_
  clear oW_
  obtain ⟨q0, q1⟩ := k22.two
  obtain ⟨p0, p1⟩ := j0.two
  go_wp2_with fail
  refine (toInt64S_any X m cx xs _ (by omega) (hX.below hB22)).mono ?_
  rintro e w23 ⟨X4, cX4, rfl, mX4⟩
  have hB23 := hB22.trans (mX4.b.mono hB22.size)
  have k23 := k22.below mX4.b k22.lt
  have j0_ := j0.below mX4.b j0.lt
  have oG_ := oG.below mX4.b
  have oW_ := oW.below mX4.b
  have mS4_ := mS4.below mX4.b
  clear q0 q1 p0 p1 k22 hB22 j0 oG oW mS4
  have j0 := j0_
  clear j0_
  have oG := oG_
  clear oG_
  have oW := oW_
  clear oW_
  have mS4 := mS4_
  clear mS4_
  obtain ⟨q0, q1⟩ := k23.two
  obtain ⟨p0, p1⟩ := j0.two
  go_wp2_with fail
  refine (toInt64S_any Y l cy ys _ (by omega) (hY.below hB23)).mono ?_
  rintro e w24 ⟨Y4, cY4, rfl, mY4⟩
  have hB24 := hB23.trans (mY4.b.mono hB23.size)
  have k24 := k23.below mY4.b k23.lt
  have j0_ := j0.below mY4.b j0.lt
  have oG_ := oG.below mY4.b
  have oW_ := oW.below mY4.b
  have mS4_ := mS4.below mY4.b
  have mX4_ := mX4.below mY4.b
  clear q0 q1 p0 p1 k23 hB23 j0 oG oW mS4 mX4
  have j0 := j0_
  clear j0_
  have oG := oG_
  clear oG_
  have oW := oW_
  clear oW_
  have mS4 := mS4_
  clear mS4_
  have mX4 := mX4_
  clear mX4_
  obtain ⟨q0, q1⟩ := k24.two
  obtain ⟨p0, p1⟩ := j0.two
  go_wp2_with fail
  refine (CommonBlade_any P S4 n s4 sq X4 m cX4 xs Y4 l cY4 ys _ hn hnX hnY mS4.rd mX4.rd mX4.2.cap mY4.rd mY4.2.cap).mono ?_
  rintro e w25 ⟨G1, k1g, c1g, rfl, mG1⟩
  rw [← HR.out] at mG1 ⊢
  have hB25 := hB24.trans (mG1.b.mono hB24.size)
  have k25 := k24.below mG1.b k24.lt
  have j0_ := j0.below mG1.b j0.lt
  have oG_ := oG.below mG1.b
  have oW_ := oW.below mG1.b
  clear q0 q1 p0 p1 k24 hB24 j0 oG oW
  have j0 := j0_
  clear j0_
  have oG := oG_
  clear oG_
  have oW := oW_
  clear oW_
  obtain ⟨q0, q1⟩ := k25.two
  obtain ⟨p0, p1⟩ := j0.two
  have hk1 : k1g ≤ 1048576 := by have := Rd.lenI mG1.rd; omega
  go_wp2_with fail
  refine (eqInt64S_same G1 W0 k1g kw c1g cw R.1 _ (by omega) (by omega) mG1.rd oW.rd).mono ?_
  rintro e w26 ⟨rfl, hbe⟩
  have hB26 := hB25.trans (hbe.mono hB25.size)
  have k26 := k25.below hbe k25.lt
  have j0_ := j0.below hbe j0.lt
  have oG_ := oG.below hbe
  clear q0 q1 p0 p1 k25 hB25 j0 oG
  have j0 := j0_
  clear j0_
  have oG := oG_
  clear oG_
  obtain ⟨q0, q1⟩ := k26.two
  obtain ⟨p0, p1⟩ := j0.two
  clear hbe
  go_wp2_with fail
  refine (heldInt64S_any G0 kg cg 1 _ (by omega) (by omega) (by omega) oG.rd).mono ?_
  rintro e w27 ⟨rfl, rfl⟩
  go_wp2
  go_ret
  exact ⟨rfl, hB26⟩
theorem fnExactCommonBlade_all (P : Int) (A : Option Addr) (n c : Nat) (sq : List Int) (X : Option Addr) (m cx : Nat) (xs : List Int) (Y : Option Addr) (l cy : Nat) (ys : List Int) (w : World) (hn : n ≤ 9223372036854775807) (hnX : m ≤ 9223372036854775807) (hnY : l ≤ 9223372036854775807) (ha : Rd w A n (ints sq)) (hX : Rd w X m (ints xs)) (hY : Rd w Y l (ints ys)) :
    Calls Tryz.prog 10 #[.agg #[.int .i64 P, .slice A n c], .slice X m cx, .slice Y l cy] w fun e w' => e = .returned (.bool true) ∧ Below w.heap.size w w' := by
  have hB0 : Below w.heap.size w (w.alloc (.cells #[.int .i64 P, .slice A n c] 24)) := (Below.refl _ _).alloc (Nat.le_refl _) _
  by_cases cX : m ≤ 1048576
  rotate_left
  · have dX : decide (1048576 < (m : Int)) = true := by simp; omega
    clear cX hnX
    go_enter Tryz.func10, Tryz.ntmps10
    go_wp2
    go_ret
    exact ⟨rfl, hB0⟩
  have dX : decide (1048576 < (m : Int)) = false := by simp; omega
  by_cases cY : l ≤ 1048576
  rotate_left
  · have dY : decide (1048576 < (l : Int)) = true := by simp; omega
    clear cY hnY
    go_enter Tryz.func10, Tryz.ntmps10
    go_wp2
    go_ret
    exact ⟨rfl, hB0⟩
  have dY : decide (1048576 < (l : Int)) = false := by simp; omega
  by_cases cn : n ≤ 1048576
  · exact fnExactCommonBlade_fits P A n c sq X m cx xs Y l cy ys w cn cX cY ha hX hY
  · have hz : szL n 1048576 = -1 := by unfold szL; rw [if_pos (by omega)]
    go_enter Tryz.func10, Tryz.ntmps10
    go_wp2_with fail
    refine (szSpace_any P A n c 1048576 _ hn (by omega) (by omega)).mono ?_
    rintro e w1 ⟨rfl, hb1⟩
    rw [hz]
    go_wp2
    go_ret
    exact ⟨rfl, hB0.trans (hb1.mono (by simp))⟩
namespace fnExactCommonBlade
theorem own : ownKnob Tryz.prog.godebug = none := by kernel_rfl
set_option maxRecDepth 100000 in
theorem lifted (os : Os) (started : os.Started) (H : Type) (enc : TypeId × Value → H) :
    ReturnsInHanded {} Tryz.checked os 10 .any (Rows.fnExactCommonBladeSpec.pre6 enc Tryz.prog Tryz.f10 Rows.fnExactCommonBladeRow.domain false) (Rows.fnExactCommonBladeSpec.post enc Tryz.prog Tryz.f10 false true false false) := by
  refine returnsInHanded_of_change (C := Tryz.checked) own started (by kernel_rfl) Tryz.func10
    (ChangeSpec.witness6 (enc := enc) (C := Tryz.checked) false ⟨#[], #[.agg #[.int .i64 0, .slice none 0 0], .slice none 0 0, .slice none 0 0], []⟩ 8 (by kernel_rfl) (by kernel_rfl) (by kernel_rfl) (by kernel_rfl)) ?_
  intro W base args ds gs before hval0 hW hcnd _
  have hval : ∀ (j : Nat) t v, Tryz.f10.params[j]? = some t → args[j]? = some v → Value.okWide Tryz.prog W .any base t v := hval0
  have hW' := hW
  obtain ⟨p, q, hA0, hV, rfl, hfz, hnd⟩ := hW
  have hA : DataW.TrodAll enc Tryz.prog W 0 (fun _ => true) true Tryz.f10.params.toList args.toList ds p := hA0
  rw [Tryz.params10] at hA hval
  obtain ⟨v0, v1, v2, d0, d1, d2, p0, p1, p2, rfl, rfl, rfl, h0, h1, h2⟩ := trodAll_three hA
  obtain ⟨rfl, rfl⟩ := trodVars_none hV
  obtain ⟨cs, rfl, hsz⟩ := okWide_struct Tryz.underlying24 (hval 0 24 v0 rfl rfl)
  clear hA0 hval0
  simp only [List.append_nil] at hW'
  obtain ⟨fuel0, hf0⟩ := id h0
  obtain ⟨P, A, n, c, sq, hcs, hnc, hn, ra⟩ := openSp hf0
  have hagg : cs = #[.int .i64 P, .slice A n c] := by simp [Value.cells] at hcs; cases cs; simp at hcs; rw [hcs]
  subst hagg
  obtain ⟨X, m, cx, rfl⟩ := okWide_slice Tryz.underlying22 (hval 1 22 v1 rfl rfl)
  obtain ⟨fuel1, hf1⟩ := id h1
  obtain ⟨X', m', cx', xs, e1, hcX, hnX, hX⟩ := openI hf1
  obtain ⟨rfl, rfl, rfl⟩ : X = X' ∧ m = m' ∧ cx = cx' := by simpa [Value.cells] using e1
  obtain ⟨Y, l, cy, rfl⟩ := okWide_slice Tryz.underlying22 (hval 2 22 v2 rfl rfl)
  obtain ⟨fuel2, hf2⟩ := id h2
  obtain ⟨Y', l', cy', ys, e2, hcY, hnY, hY⟩ := openI hf2
  obtain ⟨rfl, rfl, rfl⟩ : Y = Y' ∧ l = l' ∧ cy = cy' := by simpa [Value.cells] using e2
  refine (fnExactCommonBlade_all P A n c sq X m cx xs Y l cy ys W hn hnX hnY ra hX hY).mono fun e' W' ⟨he, hg⟩ => ?_
  subst he
  exact ⟨_, rfl, post_below (pa := p0 ++ (p1 ++ p2)) (pv := []) hW' (fun _ _ _ => (trodAll_cons_mk (shut_bool Tryz.underlying4 _) trodAll_mk0))
    (fun sp hs => trodAll_mk3 (WideElems.Trod_stays (by kernel_rfl) (by kernel_rfl) (of_decide_eq_true (by kernel_rfl)) h0 (fun x hx => hg.same (hW'.lt x (by simp [hx]))) (fun x hx => hs x (by simp [hx]))) (WideElems.Trod_stays (by kernel_rfl) (by kernel_rfl) (of_decide_eq_true (by kernel_rfl)) h1 (fun x hx => hg.same (hW'.lt x (by simp [hx]))) (fun x hx => hs x (by simp [hx]))) (WideElems.Trod_stays (by kernel_rfl) (by kernel_rfl) (of_decide_eq_true (by kernel_rfl)) h2 (fun x hx => hg.same (hW'.lt x (by simp [hx]))) (fun x hx => hs x (by simp [hx])))) (fun _ _ => rfl) (by simp) hg
    (ok_one (by kernel_rfl) rfl (okWide_bool_mk Tryz.underlying4 _))⟩
theorem over : Rows.fnExactCommonBladeRow.holds Tryz.pinned (OpenSpec.ofChange Rows.fnExactCommonBladeSpec) :=
  OpenClaim.holds_of_wide 10 Tryz.f10 rfl rfl rfl rfl rfl rfl rfl ⟨rfl, rfl, rfl, rfl, rfl⟩ rfl rfl rfl rfl rfl (by kernel_rfl) Tryz.func10 (by kernel_rfl)
    (of_decide_eq_true (by kernel_rfl)) (by unfold Func.isWrapper; first | (rw [if_pos (by decide +kernel)]; kernel_rfl) | (rw [if_neg (by decide +kernel)]; exact ⟨rfl, rfl⟩))
    (fun os started H enc _ => lifted os started H enc)
theorem proved : Rows.FnExactCommonBladeSaid := over
#print axioms proved
end fnExactCommonBlade
end Go.Proofs.YtommppijnccomaaGreat
