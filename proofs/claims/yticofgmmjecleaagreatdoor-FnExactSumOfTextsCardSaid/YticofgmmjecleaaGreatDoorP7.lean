/-
  FnExactSumOfTexts: for every input the law returns true. No condition.
-/
import Derived.Test.YticofgmmjecleaaGreatDoorP6
namespace Go.Proofs.YticofgmmjecleaaGreatDoor
open Go.ChangeShapes Go.WideShapes Go.ChangeAt Go.RowKit
set_option maxHeartbeats 4000000 in
set_option maxRecDepth 8000 in
theorem fnExactSumOfTexts_fits (P : Int) (A : Option Addr) (n c : Nat) (sq : List Int) (X : Option Addr) (m cx : Nat) (xs : List By) (w : World) (hn : n ≤ 1048576) (hnX : m ≤ 1048576) (hxs : ∀ t ∈ xs, t.length ≤ 1048576) (hsz : 0 ≤ szT xs (1048576 - (n : Int))) (he : EnvX w) (ha : Rd w A n (ints sq)) (hX : Rd w X m (txts xs)) :
    Calls Tryz.prog 5 #[.agg #[.int .i64 P, .slice A n c], .slice X m cx] w fun e w' => e = .returned (.bool true) ∧ Below w.heap.size w w' := by
  have hB0 : Below w.heap.size w (w.alloc (.cells #[.int .i64 P, .slice A n c] 24)) := (Below.refl _ _).alloc (Nat.le_refl _) _
  have k0 : Blk (w.alloc (.cells #[.int .i64 P, .slice A n c] 24)) w.heap.size 24 #[.int .i64 P, .slice A n c] := Blk.new _ _ _
  have hz : szL n 1048576 = 1048576 - (n : Int) := by unfold szL; rw [if_neg (by omega)]
  have dz : decide (1048576 - (n : Int) < 0) = false := by simp; omega
  obtain ⟨Z, hZ⟩ : ∃ Z, Z = szT xs (1048576 - (n : Int)) := ⟨_, rfl⟩
  have HZ := Lib.hid hZ
  rw [← hZ] at hsz
  clear hZ
  have dZ : decide (Z < 0) = false := by simp; omega
  obtain ⟨R, hR⟩ : ∃ R, R = sumR P sq xs := ⟨_, rfl⟩
  have HR := Lib.hid hR
  have hlen : R.1.length ≤ 1048576 := by rw [hR]; exact sumR_len P sq xs
  clear hR
  go_enter Tryz.func5, Tryz.ntmps5
  go_wp2_with fail
  refine (szSpace_any P A n c 1048576 _ (by omega) (by omega) (by omega)).mono ?_
  rintro e w1 ⟨rfl, hb1⟩
  rw [hz]
  have hB1 := hB0.trans (hb1.mono (by simp))
  have k1 := k0.below hb1 k0.lt
  clear k0 hB0 hb1 hz
  obtain ⟨q0, q1⟩ := k1.two
  go_wp2_with fail
  refine (szStringS_any X m cx xs (1048576 - (n : Int)) _ (by omega) (by omega) (by omega) (hX.below hB1) (fun t ht => Nat.le_trans (hxs t ht) (by omega))).mono ?_
  rintro e w1' ⟨rfl, rfl⟩
  rw [← HZ.out]
  go_wp2_with fail
  refine (toSpace_any P A n c sq _ (by omega) (ha.below hB1)).mono ?_
  rintro e w2 ⟨S1, s1, rfl, mS1⟩
  have hB2 := hB1.trans (mS1.b.mono hB1.size)
  have k2 := k1.below mS1.b k1.lt
  clear q0 q1 k1 hB1
  obtain ⟨q0, q1⟩ := k2.two
  go_wp2_with fail
  refine (toStringS_any X m cx xs _ (by omega) (hX.below hB2)).mono ?_
  rintro e w3 ⟨X1, cX1, rfl, mX1⟩
  replace mS1 := mS1.below mX1.b
  have hB3 := hB2.trans (mX1.b.mono hB2.size)
  have k3 := k2.below mX1.b k2.lt
  clear q0 q1 k2 hB2
  obtain ⟨q0, q1⟩ := k3.two
  go_wp2_with fail
  refine (specSumOfTexts_any P S1 n s1 sq X1 m cX1 xs _ hn hnX mS1.rd mX1.rd hxs).mono ?_
  rintro e w4 ⟨W0, kw, cw, rfl, mW⟩
  rw [← HR.out] at mW ⊢
  clear mS1 mX1
  have hB4 := hB3.trans (mW.b.mono hB3.size)
  have k4 := k3.below mW.b k3.lt
  clear q0 q1 k3 hB3
  obtain ⟨q0, q1⟩ := k4.two
  have oW := mW.2
  have szW := mW.b.size
  clear mW
  have zS := hB4.size
  go_wp2_with fail
  refine (toSpace_any P A n c sq _ (by omega) (ha.below hB4)).mono ?_
  rintro e w5 ⟨S2, s2, rfl, mS2⟩
  have hB5 := hB4.trans (mS2.b.mono hB4.size)
  have k5 := k4.below mS2.b k4.lt
  clear q0 q1 k4 hB4
  obtain ⟨q0, q1⟩ := k5.two
  have j0 := Blk.new w5 28 #[.int .i64 P, .slice S2 n s2]
  have k6 := k5.alloc (.cells #[.int .i64 P, .slice S2 n s2] 28)
  have hB6 := hB5.alloc hB5.size (.cells #[.int .i64 P, .slice S2 n s2] 28)
  have aB : Below w5.heap.size w5 (w5.alloc (.cells #[.int .i64 P, .slice S2 n s2] 28)) := (Below.refl _ _).alloc (Nat.le_refl _) _
  have apWS : Apart (.slice W0 kw cw) (.slice S2 n s2) := Own.apart_of oW mS2.2 (Nat.le_refl _)
  have oW1 := (oW.below mS2.b).below aB
  clear oW
  have oW := oW1
  clear oW1
  have mS2_ := mS2.below aB
  clear mS2
  have mS2 := mS2_
  clear mS2_
  clear q0 q1 k5 hB5 aB
  obtain ⟨q0, q1⟩ := k6.two
  obtain ⟨p0, p1⟩ := j0.two
  have zX := hB6.size
  go_wp2_with fail
  refine (toStringS_any X m cx xs _ (by omega) (hX.below hB6)).mono ?_
  rintro e w7 ⟨X2, cX2, rfl, mX2⟩
  have apSX : Apart (.slice S2 n s2) (.slice X2 m cX2) := Own.apart_of mS2.2 mX2.2 (Nat.le_refl _)
  have apWX : Apart (.slice W0 kw cw) (.slice X2 m cX2) := Own.apart_of oW mX2.2 (Nat.le_refl _)
  have hB7 := hB6.trans (mX2.b.mono hB6.size)
  have k7 := k6.below mX2.b k6.lt
  have j0_ := j0.below mX2.b j0.lt
  have mS2_ := mS2.below mX2.b
  have oW_ := oW.below mX2.b
  clear q0 q1 p0 p1 k6 hB6 j0 mS2 oW
  have j0 := j0_
  clear j0_
  have mS2 := mS2_
  clear mS2_
  have oW := oW_
  clear oW_
  obtain ⟨q0, q1⟩ := k7.two
  obtain ⟨p0, p1⟩ := j0.two
  have zG := hB7.size
  go_wp2_with fail
  refine (SumOfTexts_any P S2 n s2 sq X2 m cX2 xs _ hn hnX mS2.rd mX2.rd hxs (he.below hB7 (Nat.le_refl _))).mono ?_
  rintro e w8 ⟨G0, kg, cg, rfl, mG⟩
  rw [← HR.out] at mG ⊢
  have apSG : Apart (.slice S2 n s2) (.slice G0 kg cg) := Own.apart_of mS2.2 mG.2 (Nat.le_refl _)
  have apWG : Apart (.slice W0 kw cw) (.slice G0 kg cg) := Own.apart_of oW mG.2 (Nat.le_refl _)
  have apXG : Apart (.slice X2 m cX2) (.slice G0 kg cg) := Own.apart_of mX2.2 mG.2 (Nat.le_refl _)
  have hB8 := hB7.trans (mG.b.mono hB7.size)
  have k8 := k7.below mG.b k7.lt
  have j0_ := j0.below mG.b j0.lt
  have mS2_ := mS2.below mG.b
  have oW_ := oW.below mG.b
  have mX2_ := mX2.below mG.b
  clear q0 q1 p0 p1 k7 hB7 j0 mS2 oW mX2
  have j0 := j0_
  clear j0_
  have mS2 := mS2_
  clear mS2_
  have oW := oW_
  clear oW_
  have mX2 := mX2_
  clear mX2_
  obtain ⟨q0, q1⟩ := k8.two
  obtain ⟨p0, p1⟩ := j0.two
  have oG := mG.2
  have HGL := Lib.hid (Rd.lenI mG.rd)
  have HWL := Lib.hid (Rd.lenI oW.rd)
  clear mG
  have hkg : kg ≤ 1048576 := by rw [← HGL.out]; exact hlen
  have hkw : kw ≤ 1048576 := by rw [← HWL.out]; exact hlen
  go_wp2_with fail
  refine (eqInt64S_same G0 W0 kg kw cg cw R.1 _ (by omega) (by omega) oG.rd oW.rd).mono ?_
  rintro e w9 ⟨rfl, hbe⟩
  have hB9 := hB8.trans (hbe.mono hB8.size)
  have k9 := k8.below hbe k8.lt
  have j0_ := j0.below hbe j0.lt
  have mS2_ := mS2.below hbe
  have oW_ := oW.below hbe
  have mX2_ := mX2.below hbe
  have oG_ := oG.below hbe
  clear q0 q1 p0 p1 k8 hB8 j0 mS2 oW mX2 oG
  have j0 := j0_
  clear j0_
  have mS2 := mS2_
  clear mS2_
  have oW := oW_
  clear oW_
  have mX2 := mX2_
  clear mX2_
  have oG := oG_
  clear oG_
  obtain ⟨q0, q1⟩ := k9.two
  obtain ⟨p0, p1⟩ := j0.two
  clear hbe
  go_wp2_with fail
  refine wp_obs 5 [[], [], [1], [0, 1, 2], [0, 1, 2, 3]] [VIs (.agg #[.int .i64 P, .slice S2 n s2]), VIs (.agg #[.int .i64 P, .slice A n c]), VSp w P n sq, VIs (.bool true), VIs (.bool false)] (fun w' => Blk w' w.heap.size 24 #[.int .i64 P, .slice A n c] ∧ Blk w' w5.heap.size 28 #[.int .i64 P, .slice S2 n s2] ∧ Below w.heap.size w w' ∧ Below w9.heap.size w9 w') (by kernel_rfl) (by kernel_rfl) (fun _ _ h hb => ⟨h.1.below hb h.1.lt, h.2.1.below hb h.2.1.lt, h.2.2.1.trans (hb.mono h.2.2.1.size), h.2.2.2.trans (hb.mono h.2.2.2.size)⟩) (⟨k9.drew, j0.drew, hB9.drew, (Below.refl _ _).drew⟩) (fun x => ?_)
  refine obs_step (Eq.trans (by simp only [List.getElem?_toArray, List.getElem?_cons_zero]; exact rfl) rfl) rfl (fun w' hS hV K hK => ?_) ?_
  · obtain ⟨q0, q1⟩ := hS.1.two; obtain ⟨p0, p1⟩ := hS.2.1.two
    go_simp
    exact hK.out _ _ _ rfl rfl rfl (Below.refl _ _)
  simp only [List.setIfInBounds_toArray, List.set_cons_zero, List.set_cons_succ]
  refine obs_step (Eq.trans (by simp only [List.getElem?_toArray, List.getElem?_cons_succ, List.getElem?_cons_zero]; exact rfl) rfl) rfl (fun w' hS hV K hK => ?_) ?_
  · obtain ⟨q0, q1⟩ := hS.1.two; obtain ⟨p0, p1⟩ := hS.2.1.two
    go_simp
    exact hK.out _ _ _ rfl rfl rfl (Below.refl _ _)
  simp only [List.setIfInBounds_toArray, List.set_cons_zero, List.set_cons_succ]
  refine obs_step (Eq.trans (by simp only [List.getElem?_toArray, List.getElem?_cons_succ, List.getElem?_cons_zero]; exact rfl) rfl) rfl (fun w' hS hV K hK => ?_) ?_
  · have e1 : x 1 = (.agg #[.int .i64 P, .slice A n c]) := hV 1 (by decide)
    obtain ⟨q0, q1⟩ := hS.1.two; obtain ⟨p0, p1⟩ := hS.2.1.two
    go_simp
    refine (toSpace_any P A n c sq _ (by omega) (ha.below hS.2.2.1)).mono ?_
    rintro e v1 ⟨A3, c3, rfl, m3⟩
    exact hK.out _ _ _ rfl rfl ⟨_, _, rfl, m3.after hS.2.2.1⟩ m3.b
  simp only [List.setIfInBounds_toArray, List.set_cons_zero, List.set_cons_succ]
  refine obs_step (Eq.trans (by simp only [List.getElem?_toArray, List.getElem?_cons_succ, List.getElem?_cons_zero]; exact rfl) rfl) rfl (fun w' hS hV K hK => ?_) ?_
  · have e0 : x 0 = (.agg #[.int .i64 P, .slice S2 n s2]) := hV 0 (by decide)
    have e1 : x 1 = (.agg #[.int .i64 P, .slice A n c]) := hV 1 (by decide)
    obtain ⟨A2, c2, e2, h2⟩ := hV 2 (by decide)
    obtain ⟨q0, q1⟩ := hS.1.two; obtain ⟨p0, p1⟩ := hS.2.1.two
    go_simp
    refine (eqSpace_same P S2 A2 n n s2 c2 sq _ (by omega) (by omega) (mS2.rd.below hS.2.2.2) h2.rd).mono ?_
    rintro e v1 ⟨rfl, hb⟩
    exact hK.out _ _ _ rfl rfl rfl hb
  simp only [List.setIfInBounds_toArray, List.set_cons_zero, List.set_cons_succ]
  refine obs_step (Eq.trans (by simp only [List.getElem?_toArray, List.getElem?_cons_succ, List.getElem?_cons_zero]; exact rfl) rfl) rfl (fun w' hS hV K hK => ?_) ?_
  · have e0 : x 0 = (.agg #[.int .i64 P, .slice S2 n s2]) := hV 0 (by decide)
    have e1 : x 1 = (.agg #[.int .i64 P, .slice A n c]) := hV 1 (by decide)
    obtain ⟨A2, c2, e2, h2⟩ := hV 2 (by decide)
    have e3 : x 3 = (.bool true) := hV 3 (by decide)
    obtain ⟨q0, q1⟩ := hS.1.two; obtain ⟨p0, p1⟩ := hS.2.1.two
    go_simp
    exact hK.out _ _ _ rfl rfl rfl (Below.refl _ _)
  simp only [List.setIfInBounds_toArray, List.set_cons_zero, List.set_cons_succ]
  refine fun w' hS hV => ?_
  have e0 : x 0 = (.agg #[.int .i64 P, .slice S2 n s2]) := hV 0 (by decide)
  have e1 : x 1 = (.agg #[.int .i64 P, .slice A n c]) := hV 1 (by decide)
  obtain ⟨A2, c2, e2, h2⟩ := hV 2 (by decide)
  have e3 : x 3 = (.bool true) := hV 3 (by decide)
  have e4 : x 4 = (.bool false) := hV 4 (by decide)
  simp only [e0, e1, e2, e3, e4]
  clear e0 e1 e2 e3 e4
  refine wpAny_done (by kernel_rfl) ?_ _
  obtain ⟨t1, t2, t3, t4⟩ := hS
  clear q0 q1 p0 p1 k9 hB9 j0 h2
  have mS2_ := mS2.below t4
  clear mS2
  have mS2 := mS2_
  clear mS2_
  have oW_ := oW.below t4
  clear oW
  have oW := oW_
  clear oW_
  have mX2_ := mX2.below t4
  clear mX2
  have mX2 := mX2_
  clear mX2_
  have oG_ := oG.below t4
  clear oG
  have oG := oG_
  clear oG_
  have k10 := t1
  have j0 := t2
  have hB10 := t3
  clear t1 t2 t3 t4
  obtain ⟨w10, rfl⟩ : ∃ W, W = w' := ⟨_, rfl⟩
  obtain ⟨q0, q1⟩ := k10.two
  obtain ⟨p0, p1⟩ := j0.two
  go_wp2_with fail
  refine (toStringS_any X m cx xs _ (by omega) (hX.below hB10)).mono ?_
  rintro e w11 ⟨X3, cX3, rfl, mX3⟩
  have hB11 := hB10.trans (mX3.b.mono hB10.size)
  have k11 := k10.below mX3.b k10.lt
  have j0_ := j0.below mX3.b j0.lt
  have mS2_ := mS2.below mX3.b
  have oW_ := oW.below mX3.b
  have mX2_ := mX2.below mX3.b
  have oG_ := oG.below mX3.b
  clear q0 q1 p0 p1 k10 hB10 j0 mS2 oW mX2 oG
  have j0 := j0_
  clear j0_
  have mS2 := mS2_
  clear mS2_
  have oW := oW_
  clear oW_
  have mX2 := mX2_
  clear mX2_
  have oG := oG_
  clear oG_
  obtain ⟨q0, q1⟩ := k11.two
  obtain ⟨p0, p1⟩ := j0.two
  go_wp2_with fail
  refine (eqStringS_same X2 X3 m m cX2 cX3 xs _ (by omega) (by omega) mX2.rd mX3.rd).mono ?_
  rintro e w12 ⟨rfl, hbe⟩
  clear mX3
  have hB12 := hB11.trans (hbe.mono hB11.size)
  have k12 := k11.below hbe k11.lt
  have j0_ := j0.below hbe j0.lt
  have mS2_ := mS2.below hbe
  have oW_ := oW.below hbe
  have mX2_ := mX2.below hbe
  have oG_ := oG.below hbe
  clear q0 q1 p0 p1 k11 hB11 j0 mS2 oW mX2 oG
  have j0 := j0_
  clear j0_
  have mS2 := mS2_
  clear mS2_
  have oW := oW_
  clear oW_
  have mX2 := mX2_
  clear mX2_
  have oG := oG_
  clear oG_
  obtain ⟨q0, q1⟩ := k12.two
  obtain ⟨p0, p1⟩ := j0.two
  clear hbe
  have oS := mS2.2
  clear mS2
  have oX := mX2.2
  clear mX2
  have zB := hB12.size
  go_wp2_with fail
  refine (markSpace_any _ P S2 n s2 sq 1 _ (by omega) (by omega) (by omega) oS).mono ?_
  rintro e w13 ⟨rfl, om, hg⟩
  have k13 := k12.grown hg (Own.ne_blk oS k12 (by decide))
  have j0_ := j0.grown hg (Own.ne_blk oS j0 (by decide))
  have hB13 := (oS.base (B' := w.heap.size) (by omega)).grown_below hg hB12 hB12.size
  have oX_ := oX.grown hg (apSX.symm.symm.row)
  have oG_ := oG.grown hg (apSG.symm.symm.row)
  have oW_ := oW.grown hg (apWS.symm.row)
  clear q0 q1 p0 p1 k12 hB12 j0 hg oS oX oG oW
  have j0 := j0_
  clear j0_
  have oX := oX_
  clear oX_
  have oG := oG_
  clear oG_
  have oW := oW_
  clear oW_
  have oS := om
  clear om
  obtain ⟨q0, q1⟩ := k13.two
  obtain ⟨p0, p1⟩ := j0.two
  go_wp2_with fail
  refine (markStringS_any _ X2 m cX2 xs (1 + (n : Int)) _ (by omega) (by omega) (by omega) oX).mono ?_
  rintro e w14 ⟨rfl, ⟨yy, om⟩, hg⟩
  have k14 := k13.grown hg (Own.ne_blk oX k13 (by decide))
  have j0_ := j0.grown hg (Own.ne_blk oX j0 (by decide))
  have hB14 := (oX.base (B' := w.heap.size) (by omega)).grown_below hg hB13 hB13.size
  have oS_ := oS.grown hg (apSX.symm.row)
  have oG_ := oG.grown hg (apXG.symm.symm.row)
  have oW_ := oW.grown hg (apWX.symm.row)
  clear q0 q1 p0 p1 k13 hB13 j0 hg oS oX oG oW
  have j0 := j0_
  clear j0_
  have oS := oS_
  clear oS_
  have oG := oG_
  clear oG_
  have oW := oW_
  clear oW_
  have oX := om
  clear om
  obtain ⟨q0, q1⟩ := k14.two
  obtain ⟨p0, p1⟩ := j0.two
  have dk : decide ((1 + (n : Int)) + (m : Int) < 0) = false := by simp; omega
  go_wp2_with fail
  refine (eqInt64S_same G0 W0 kg kw cg cw R.1 _ (by omega) (by omega) oG.rd oW.rd).mono ?_
  rintro e w15 ⟨rfl, hbe⟩
  have hB15 := hB14.trans (hbe.mono hB14.size)
  have k15 := k14.below hbe k14.lt
  have j0_ := j0.below hbe j0.lt
  have oS_ := oS.below hbe
  have oX_ := oX.below hbe
  have oG_ := oG.below hbe
  have oW_ := oW.below hbe
  clear q0 q1 p0 p1 k14 hB14 j0 oS oX oG oW
  have j0 := j0_
  clear j0_
  have oS := oS_
  clear oS_
  have oX := oX_
  clear oX_
  have oG := oG_
  clear oG_
  have oW := oW_
  clear oW_
  obtain ⟨q0, q1⟩ := k15.two
  obtain ⟨p0, p1⟩ := j0.two
  clear hbe dk
  go_wp2_with fail
  refine (markInt64S_any _ G0 kg cg R.1 1 _ (by omega) (by omega) (by omega) oG).mono ?_
  rintro e w16 ⟨rfl, om, hg⟩
  have k16 := k15.grown hg (Own.ne_blk oG k15 (by decide))
  have j0_ := j0.grown hg (Own.ne_blk oG j0 (by decide))
  have hB16 := (oG.base (B' := w.heap.size) (by omega)).grown_below hg hB15 hB15.size
  have oS_ := oS.grown hg (apSG.symm.row)
  have oX_ := oX.grown hg (apXG.symm.row)
  have oW_ := oW.grown hg (apWG.symm.row)
  clear q0 q1 p0 p1 k15 hB15 j0 hg oS oX oG oW
  have j0 := j0_
  clear j0_
  have oS := oS_
  clear oS_
  have oX := oX_
  clear oX_
  have oW := oW_
  clear oW_
  have oG := om
  clear om
  obtain ⟨q0, q1⟩ := k16.two
  obtain ⟨p0, p1⟩ := j0.two
  have dg : decide (1 + (kg : Int) < 0) = false := by simp; omega
  go_wp2_with fail
  refine (heldInt64S_any G0 kg cg 1 _ (by omega) (by omega) (by omega) oG.rd).mono ?_
  rintro e w17 ⟨rfl, rfl⟩
  go_wp2_with fail
  refine (toSpace_any P A n c sq _ (by omega) (ha.below hB16)).mono ?_
  rintro e w17 ⟨S4, s4, rfl, mS4⟩
  have hB17 := hB16.trans (mS4.b.mono hB16.size)
  have k17 := k16.below mS4.b k16.lt
  have j0_ := j0.below mS4.b j0.lt
  have oG_ := oG.below mS4.b
  have oW_ := oW.below mS4.b
  clear q0 q1 p0 p1 k16 hB16 j0 oG oW
  have j0 := j0_
  clear j0_
  have oG := oG_
  clear oG_
  have oW := oW_
  clear oW_
  obtain ⟨q0, q1⟩ := k17.two
  obtain ⟨p0, p1⟩ := j0.two
  go_wp2_with fail
  refine (toStringS_any X m cx xs _ (by omega) (hX.below hB17)).mono ?_
  rintro e w18 ⟨X4, cX4, rfl, mX4⟩
  have hB18 := hB17.trans (mX4.b.mono hB17.size)
  have k18 := k17.below mX4.b k17.lt
  have j0_ := j0.below mX4.b j0.lt
  have oG_ := oG.below mX4.b
  have oW_ := oW.below mX4.b
  have mS4_ := mS4.below mX4.b
  clear q0 q1 p0 p1 k17 hB17 j0 oG oW mS4
  have j0 := j0_
  clear j0_
  have oG := oG_
  clear oG_
  have oW := oW_
  clear oW_
  have mS4 := mS4_
  clear mS4_
  obtain ⟨q0, q1⟩ := k18.two
  obtain ⟨p0, p1⟩ := j0.two
  go_wp2_with fail
  refine (SumOfTexts_any P S4 n s4 sq X4 m cX4 xs _ hn hnX mS4.rd mX4.rd hxs (he.below hB18 (Nat.le_refl _))).mono ?_
  rintro e w19 ⟨G1, k1g, c1g, rfl, mG1⟩
  rw [← HR.out] at mG1 ⊢
  have hB19 := hB18.trans (mG1.b.mono hB18.size)
  have k19 := k18.below mG1.b k18.lt
  have j0_ := j0.below mG1.b j0.lt
  have oG_ := oG.below mG1.b
  have oW_ := oW.below mG1.b
  clear q0 q1 p0 p1 k18 hB18 j0 oG oW
  have j0 := j0_
  clear j0_
  have oG := oG_
  clear oG_
  have oW := oW_
  clear oW_
  obtain ⟨q0, q1⟩ := k19.two
  obtain ⟨p0, p1⟩ := j0.two
  have hk1 : k1g ≤ 1048576 := by have := Rd.lenI mG1.rd; omega
  go_wp2_with fail
  refine (eqInt64S_same G1 W0 k1g kw c1g cw R.1 _ (by omega) (by omega) mG1.rd oW.rd).mono ?_
  rintro e w20 ⟨rfl, hbe⟩
  have hB20 := hB19.trans (hbe.mono hB19.size)
  have k20 := k19.below hbe k19.lt
  have j0_ := j0.below hbe j0.lt
  have oG_ := oG.below hbe
  clear q0 q1 p0 p1 k19 hB19 j0 oG
  have j0 := j0_
  clear j0_
  have oG := oG_
  clear oG_
  obtain ⟨q0, q1⟩ := k20.two
  obtain ⟨p0, p1⟩ := j0.two
  clear hbe
  go_wp2_with fail
  refine (heldInt64S_any G0 kg cg 1 _ (by omega) (by omega) (by omega) oG.rd).mono ?_
  rintro e w21 ⟨rfl, rfl⟩
  go_wp2
  go_ret
  exact ⟨rfl, hB20⟩
theorem fnExactSumOfTexts_all (P : Int) (A : Option Addr) (n c : Nat) (sq : List Int) (X : Option Addr) (m cx : Nat) (xs : List By) (w : World) (hn : n ≤ 9223372036854775807) (hnX : m ≤ 9223372036854775807) (hxs : ∀ t ∈ xs, t.length ≤ 9223372036854775807) (he : EnvX w) (ha : Rd w A n (ints sq)) (hX : Rd w X m (txts xs)) :
    Calls Tryz.prog 5 #[.agg #[.int .i64 P, .slice A n c], .slice X m cx] w fun e w' => e = .returned (.bool true) ∧ Below w.heap.size w w' := by
  have hB0 : Below w.heap.size w (w.alloc (.cells #[.int .i64 P, .slice A n c] 24)) := (Below.refl _ _).alloc (Nat.le_refl _) _
  by_cases cn : n ≤ 1048576
  · by_cases cz : 0 ≤ szT xs (1048576 - (n : Int))
    · obtain ⟨h1, h2⟩ := szT_all (by omega) cz
      rw [hX.lenS] at h1
      exact fnExactSumOfTexts_fits P A n c sq X m cx xs w cn h1 h2 cz he ha hX
    · have hz : szL n 1048576 = 1048576 - (n : Int) := by unfold szL; rw [if_neg (by omega)]
      have dz : decide (1048576 - (n : Int) < 0) = false := by simp; omega
      obtain ⟨Z, hZ⟩ : ∃ Z, Z = szT xs (1048576 - (n : Int)) := ⟨_, rfl⟩
      have HZ := Lib.hid hZ
      rw [← hZ] at cz
      clear hZ
      have dZ : decide (Z < 0) = true := by simp; omega
      have HXS := Lib.hid hxs
      clear hxs cz
      go_enter Tryz.func5, Tryz.ntmps5
      go_wp2_with fail
      refine (szSpace_any P A n c 1048576 _ (by omega) (by omega) (by omega)).mono ?_
      rintro e w1 ⟨rfl, hb1⟩
      rw [hz]
      have hB1 := hB0.trans (hb1.mono (by simp))
      clear hz
      go_wp2_with fail
      refine (szStringS_any X m cx xs (1048576 - (n : Int)) _ hnX (by omega) (by omega) (hX.below hB1) HXS.out).mono ?_
      rintro e w1' ⟨rfl, rfl⟩
      rw [← HZ.out]
      go_wp2
      go_ret
      exact ⟨rfl, hB1⟩
  · have hz : szL n 1048576 = -1 := by unfold szL; rw [if_pos (by omega)]
    clear hxs
    go_enter Tryz.func5, Tryz.ntmps5
    go_wp2_with fail
    refine (szSpace_any P A n c 1048576 _ hn (by omega) (by omega)).mono ?_
    rintro e w1 ⟨rfl, hb1⟩
    rw [hz]
    go_wp2
    go_ret
    exact ⟨rfl, hB0.trans (hb1.mono (by simp))⟩
namespace fnExactSumOfTexts
theorem own : ownKnob Tryz.prog.godebug = none := by kernel_rfl
set_option maxRecDepth 100000 in
theorem lifted (os : Os) (started : os.Started) (H : Type) (enc : TypeId × Value → H) :
    ReturnsInHanded {} Tryz.checked os 5 .any ((OpenSpec.ofChange Rows.fnExactSumOfTextsSpec).preRow enc Tryz.prog Tryz.f5 [] false Rows.fnExactSumOfTextsRow.laid) (((OpenSpec.ofChange Rows.fnExactSumOfTextsSpec).at (fun _ _ _ => 0)).post enc Tryz.prog Tryz.f5 false true false false) := by
  have hwit := ChangeSpec.witness_shaped (enc := enc) (C := Tryz.checked) (os := os) (f := 5) (fn := Tryz.f5) (s := Rows.fnExactSumOfTextsSpec) (conds := []) (apart := false) (X := fun w _ => laidMetH Tryz.prog Rows.fnExactSumOfTextsRow.laid w) false (World.laidAll Tryz.prog os Rows.fnExactSumOfTextsRow.laid) #[.agg #[.int .i64 0, .slice none 0 0], .slice none 0 0] 8 (World.laidAll_os _ _ _)
    (World.shaped_of_ZipB (by kernel_rfl) (by kernel_rfl)) (by kernel_rfl) (by kernel_rfl) (by kernel_rfl)
    (by rw [MakeChecks.laidMetH_plain _ _ _ (by kernel_rfl)]; exact laidMet_laidAll _ (by kernel_rfl) (by kernel_rfl))
  refine returnsInHanded_of_row (C := Tryz.checked) (s := OpenSpec.ofChange Rows.fnExactSumOfTextsSpec) own started (by kernel_rfl) Tryz.func5 hwit ?_
  intro W base args ds gs before hval0 hW _ _ _ hL hsh _
  have hval : ∀ (j : Nat) t v, Tryz.f5.params[j]? = some t → args[j]? = some v → Value.okWide Tryz.prog W .any base t v := hval0
  have hW' := hW
  obtain ⟨p, q, hA0, hV, rfl, hfz, hnd⟩ := hW
  have hA : DataW.TrodAll enc Tryz.prog W 0 (fun _ => true) true Tryz.f5.params.toList args.toList ds p := hA0
  rw [Tryz.params5] at hA hval
  obtain ⟨v0, v1, d0, d1, p0, p1, rfl, rfl, rfl, h0, h1⟩ := trodAll_two hA
  obtain ⟨rfl, rfl⟩ := trodVars_none hV
  obtain ⟨cs, rfl, hsz⟩ := okWide_struct Tryz.underlying24 (hval 0 24 v0 rfl rfl)
  simp only [List.append_nil] at hW'
  obtain ⟨fuel0, hf0⟩ := id h0
  obtain ⟨P, A, n, c, sq, hcs, hnc, hn, ra⟩ := openSp hf0
  have hagg : cs = #[.int .i64 P, .slice A n c] := by simp [Value.cells] at hcs; cases cs; simp at hcs; rw [hcs]
  subst hagg
  obtain ⟨X, m, cx, rfl⟩ := okWide_slice Tryz.underlying37 (hval 1 37 v1 rfl rfl)
  obtain ⟨fuel1, hf1⟩ := id h1
  obtain ⟨X', m', cx', ts, e1, hcX, hnX, hX, hts⟩ := openT hf1
  obtain ⟨rfl, rfl, rfl⟩ : X = X' ∧ m = m' ∧ cx = cx' := by simpa [Value.cells] using e1
  clear hA0 hval0
  rw [MakeChecks.laidMetH_plain _ _ _ (by kernel_rfl)] at hL
  have he : EnvX W := envX_of hsh hL (by kernel_rfl) (by kernel_rfl) (by kernel_rfl)
  have ha := fnExactSumOfTexts_all P A n c sq X m cx ts W hn hnX hts he ra hX
  refine ha.mono fun e' W' ⟨he, hg⟩ => ?_
  subst he
  exact ⟨_, rfl, post_below (pa := p0 ++ p1) (pv := []) hW' (fun _ _ _ => (trodAll_cons_mk (shut_bool Tryz.underlying4 _) trodAll_mk0))
    (fun sp hs => trodAll_mk2 (WideElems.Trod_stays (by kernel_rfl) (by kernel_rfl) (of_decide_eq_true (by kernel_rfl)) h0 (fun x hx => hg.same (hW'.lt x (by simp [hx]))) (fun x hx => hs x (by simp [hx]))) (WideElems.Trod_stays (by kernel_rfl) (by kernel_rfl) (of_decide_eq_true (by kernel_rfl)) h1 (fun x hx => hg.same (hW'.lt x (by simp [hx]))) (fun x hx => hs x (by simp [hx])))) (fun _ _ => rfl) (by simp) hg
    (ok_one (by kernel_rfl) rfl (okWide_bool_mk Tryz.underlying4 _))⟩
theorem over : Rows.FnExactSumOfTextsSaid :=
  OpenClaim.holds_of_wide 5 Tryz.f5 rfl rfl rfl rfl rfl rfl rfl ⟨rfl, rfl, rfl, rfl, rfl⟩ rfl rfl rfl rfl rfl (by kernel_rfl) Tryz.func5 (by kernel_rfl)
    (of_decide_eq_true (by kernel_rfl)) (by unfold Func.isWrapper; first | (rw [if_pos (by decide +kernel)]; kernel_rfl) | (rw [if_neg (by decide +kernel)]; exact ⟨rfl, rfl⟩))
    (fun os started H enc _ => by rw [OpenClaim.pre_eq_preRow]; exact lifted os started H enc)
theorem params_plain : ∀ (j : Nat) t, Tryz.f5.params[j]? = some t → Tryz.prog.wantsStandIn t = false := fun j t ht => by
  rw [Tryz.params5] at ht
  have hm : t ∈ [24, 37] := by simpa using Array.mem_of_getElem? ht
  have hall : ([24, 37].all fun u => !Tryz.prog.wantsStandIn u) = true := by kernel_rfl
  exact (show Tryz.prog.wantsStandIn t = false by simpa using List.all_eq_true.1 hall t hm)
theorem proved : Rows.FnExactSumOfTextsCardSaid :=
  Claim7.holds_tied_plain_at .later [] [.data, .data, .data, .data, .sentinel, .sentinel, .pinned] true (true, "5cd77a9a08a84708cddebefb7e660631a992c31ac6ed7f200179c9a4402d0cbe") true
    over (fun _ h => by cases h) (by kernel_rfl) (fun _ h => by cases h) fnExactSumOfTexts_row_tie rfl ⟨rfl, rfl⟩ (by kernel_rfl) rfl
    (fun f fn hf hfn => by
      obtain rfl : f = 5 := Option.some.inj (hf.symm.trans (show Tryz.prog.funcNamed Rows.fnExactSumOfTextsRow.func = some 5 by kernel_rfl))
      obtain rfl : fn = Tryz.f5 := (Option.some.inj (Tryz.func5.symm.trans hfn)).symm
      exact ⟨by kernel_rfl, params_plain⟩)
    (by kernel_rfl)
#print axioms proved
end fnExactSumOfTexts
end Go.Proofs.YticofgmmjecleaaGreatDoor
