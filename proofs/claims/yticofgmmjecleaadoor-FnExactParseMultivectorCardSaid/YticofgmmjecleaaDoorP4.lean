/-
  FnExactParseMultivector: for every input the law returns true. No condition.
-/
import Derived.Test.YticofgmmjecleaaDoorP3
namespace Go.Proofs.YticofgmmjecleaaDoor
open Go.ChangeShapes Go.WideShapes Go.ChangeAt Go.RowKit
set_option maxHeartbeats 4000000 in
set_option maxRecDepth 8000 in
theorem fnExactParseMultivector_fits (P : Int) (A : Option Addr) (n c : Nat) (sq : List Int)  (t : By) (w : World) (hn : n ≤ 1048576)  (he : Env w) (ha : Rd w A n (ints sq))  (ht : t.length ≤ 1048576) :
    Calls Tryd.prog 3 #[.agg #[.int .i64 P, .slice A n c], .string ⟨t.toArray⟩] w fun e w' => e = .returned (.bool true) ∧ Below w.heap.size w w' := by
  have hB0 : Below w.heap.size w (w.alloc (.cells #[.int .i64 P, .slice A n c] 24)) := (Below.refl _ _).alloc (Nat.le_refl _) _
  have k0 : Blk (w.alloc (.cells #[.int .i64 P, .slice A n c] 24)) w.heap.size 24 #[.int .i64 P, .slice A n c] := Blk.new _ _ _
  have hz : szL n 1048576 = 1048576 - (n : Int) := by unfold szL; rw [if_neg (by omega)]
  have dz : decide (1048576 - (n : Int) < 0) = false := by simp; omega
  have dT : decide (1048576 < (t.length : Int)) = false := by simp; omega
  obtain ⟨R, hR⟩ : ∃ R, R = parR P sq t := ⟨_, rfl⟩
  have HR := Lib.hid hR
  have hlen : R.1.length ≤ 1048576 := by rw [hR]; exact parR_len P sq t
  clear hR
  go_enter Tryd.func3, Tryd.ntmps3
  go_wp2_with fail
  refine (szSpace_any P A n c 1048576 _ (by omega) (by omega) (by omega)).mono ?_
  rintro e w1 ⟨rfl, hb1⟩
  rw [hz]
  have hB1 := hB0.trans (hb1.mono (by simp))
  have k1 := k0.below hb1 k0.lt
  clear k0 hB0 hb1 hz
  obtain ⟨q0, q1⟩ := k1.two
  go_wp2_with fail
  refine (toSpace_any P A n c sq _ (by omega) (ha.below hB1)).mono ?_
  rintro e w2 ⟨S1, s1, rfl, mS1⟩
  have hB2 := hB1.trans (mS1.b.mono hB1.size)
  have k2 := k1.below mS1.b k1.lt
  clear q0 q1 k1 hB1
  obtain ⟨q0, q1⟩ := k2.two
  go_wp2_with fail
  refine (specParseMultivector_any P S1 n s1 sq t  _ hn (by omega)  mS1.rd ).mono ?_
  rintro e w3 ⟨W0, kw, cw, rfl, mW⟩
  rw [← HR.out] at mW ⊢
  clear mS1
  have hB3 := hB2.trans (mW.b.mono hB2.size)
  have k3 := k2.below mW.b k2.lt
  clear q0 q1 k2 hB2
  obtain ⟨q0, q1⟩ := k3.two
  have oW := mW.2
  have szW := mW.b.size
  clear mW
  have zS := hB3.size
  go_wp2_with fail
  refine (toSpace_any P A n c sq _ (by omega) (ha.below hB3)).mono ?_
  rintro e w4 ⟨S2, s2, rfl, mS2⟩
  have hB4 := hB3.trans (mS2.b.mono hB3.size)
  have k4 := k3.below mS2.b k3.lt
  clear q0 q1 k3 hB3
  obtain ⟨q0, q1⟩ := k4.two
  have j0 := Blk.new w4 28 #[.int .i64 P, .slice S2 n s2]
  have k5 := k4.alloc (.cells #[.int .i64 P, .slice S2 n s2] 28)
  have hB5 := hB4.alloc hB4.size (.cells #[.int .i64 P, .slice S2 n s2] 28)
  have aB : Below w4.heap.size w4 (w4.alloc (.cells #[.int .i64 P, .slice S2 n s2] 28)) := (Below.refl _ _).alloc (Nat.le_refl _) _
  have apWS : Apart (.slice W0 kw cw) (.slice S2 n s2) := Own.apart_of oW mS2.2 (Nat.le_refl _)
  have oW1 := (oW.below mS2.b).below aB
  clear oW
  have oW := oW1
  clear oW1
  have mS2_ := mS2.below aB
  clear mS2
  have mS2 := mS2_
  clear mS2_
  clear q0 q1 k4 hB4 aB
  obtain ⟨q0, q1⟩ := k5.two
  obtain ⟨p0, p1⟩ := j0.two
  have zG := hB5.size
  go_wp2_with fail
  refine (ParseMultivector_any P S2 n s2 sq t  _ hn (by omega)  mS2.rd  (he.below hB5 (Nat.le_refl _))).mono ?_
  rintro e w6 ⟨G0, kg, cg, rfl, mG⟩
  rw [← HR.out] at mG ⊢
  have apSG : Apart (.slice S2 n s2) (.slice G0 kg cg) := Own.apart_of mS2.2 mG.2 (Nat.le_refl _)
  have apWG : Apart (.slice W0 kw cw) (.slice G0 kg cg) := Own.apart_of oW mG.2 (Nat.le_refl _)
  have hB6 := hB5.trans (mG.b.mono hB5.size)
  have k6 := k5.below mG.b k5.lt
  have j0_ := j0.below mG.b j0.lt
  have mS2_ := mS2.below mG.b
  have oW_ := oW.below mG.b
  clear q0 q1 p0 p1 k5 hB5 j0 mS2 oW
  have j0 := j0_
  clear j0_
  have mS2 := mS2_
  clear mS2_
  have oW := oW_
  clear oW_
  obtain ⟨q0, q1⟩ := k6.two
  obtain ⟨p0, p1⟩ := j0.two
  have oG := mG.2
  have HGL := Lib.hid (Rd.lenI mG.rd)
  have HWL := Lib.hid (Rd.lenI oW.rd)
  clear mG
  have hkg : kg ≤ 1048576 := by rw [← HGL.out]; exact hlen
  have hkw : kw ≤ 1048576 := by rw [← HWL.out]; exact hlen
  go_wp2_with fail
  refine (eqInt64S_same G0 W0 kg kw cg cw R.1 _ (by omega) (by omega) oG.rd oW.rd).mono ?_
  rintro e w7 ⟨rfl, hbe⟩
  have hB7 := hB6.trans (hbe.mono hB6.size)
  have k7 := k6.below hbe k6.lt
  have j0_ := j0.below hbe j0.lt
  have mS2_ := mS2.below hbe
  have oW_ := oW.below hbe
  have oG_ := oG.below hbe
  clear q0 q1 p0 p1 k6 hB6 j0 mS2 oW oG
  have j0 := j0_
  clear j0_
  have mS2 := mS2_
  clear mS2_
  have oW := oW_
  clear oW_
  have oG := oG_
  clear oG_
  obtain ⟨q0, q1⟩ := k7.two
  obtain ⟨p0, p1⟩ := j0.two
  clear hbe
  go_wp2_with fail
  refine wp_obs 5 [[], [], [1], [0, 1, 2], [0, 1, 2, 3]] [VIs (.agg #[.int .i64 P, .slice S2 n s2]), VIs (.agg #[.int .i64 P, .slice A n c]), VSp w P n sq, VIs (.bool true), VIs (.bool false)] (fun w' => Blk w' w.heap.size 24 #[.int .i64 P, .slice A n c] ∧ Blk w' w4.heap.size 28 #[.int .i64 P, .slice S2 n s2] ∧ Below w.heap.size w w' ∧ Below w7.heap.size w7 w') (by kernel_rfl) (by kernel_rfl) (fun _ _ h hb => ⟨h.1.below hb h.1.lt, h.2.1.below hb h.2.1.lt, h.2.2.1.trans (hb.mono h.2.2.1.size), h.2.2.2.trans (hb.mono h.2.2.2.size)⟩) (⟨k7.drew, j0.drew, hB7.drew, (Below.refl _ _).drew⟩) (fun x => ?_)
  refine obs_step (Eq.trans (by simp only [List.getElem?_toArray, List.getElem?_cons_zero]; exact rfl) rfl) rfl (fun w' hS hV K hK => ?_) ?_
  · obtain ⟨q0, q1⟩ := hS.1.two; obtain ⟨p0, p1⟩ := hS.2.1.two
    go_simp
    exact hK.out _ _ _ rfl rfl rfl (Below.refl _ _)
  simp only [List.setIfInBounds_toArray, List.set_cons_zero, List.set_cons_succ]
  refine obs_step (Eq.trans (by simp only [List.getElem?_toArray, List.getElem?_cons_succ, List.getElem?_cons_zero]; exact rfl) rfl) rfl (fun w' hS hV K hK => ?_) ?_
  · obtain ⟨q0, q1⟩ := hS.1.two; obtain ⟨p0, p1⟩ := hS.2.1.two
    go_simp
    exact hK.out _ _ _ rfl rfl rfl (Below.refl _ _)
  simp only [List.setIfInBounds_toArray, List.set_cons_zero, List.set_cons_succ]
  refine obs_step (Eq.trans (by simp only [List.getElem?_toArray, List.getElem?_cons_succ, List.getElem?_cons_zero]; exact rfl) rfl) rfl (fun w' hS hV K hK => ?_) ?_
  · have e1 : x 1 = (.agg #[.int .i64 P, .slice A n c]) := hV 1 (by decide)
    obtain ⟨q0, q1⟩ := hS.1.two; obtain ⟨p0, p1⟩ := hS.2.1.two
    go_simp
    refine (toSpace_any P A n c sq _ (by omega) (ha.below hS.2.2.1)).mono ?_
    rintro e v1 ⟨A3, c3, rfl, m3⟩
    exact hK.out _ _ _ rfl rfl ⟨_, _, rfl, m3.after hS.2.2.1⟩ m3.b
  simp only [List.setIfInBounds_toArray, List.set_cons_zero, List.set_cons_succ]
  refine obs_step (Eq.trans (by simp only [List.getElem?_toArray, List.getElem?_cons_succ, List.getElem?_cons_zero]; exact rfl) rfl) rfl (fun w' hS hV K hK => ?_) ?_
  · have e0 : x 0 = (.agg #[.int .i64 P, .slice S2 n s2]) := hV 0 (by decide)
    have e1 : x 1 = (.agg #[.int .i64 P, .slice A n c]) := hV 1 (by decide)
    obtain ⟨A2, c2, e2, h2⟩ := hV 2 (by decide)
    obtain ⟨q0, q1⟩ := hS.1.two; obtain ⟨p0, p1⟩ := hS.2.1.two
    go_simp
    refine (eqSpace_same P S2 A2 n n s2 c2 sq _ (by omega) (by omega) (mS2.rd.below hS.2.2.2) h2.rd).mono ?_
    rintro e v1 ⟨rfl, hb⟩
    exact hK.out _ _ _ rfl rfl rfl hb
  simp only [List.setIfInBounds_toArray, List.set_cons_zero, List.set_cons_succ]
  refine obs_step (Eq.trans (by simp only [List.getElem?_toArray, List.getElem?_cons_succ, List.getElem?_cons_zero]; exact rfl) rfl) rfl (fun w' hS hV K hK => ?_) ?_
  · have e0 : x 0 = (.agg #[.int .i64 P, .slice S2 n s2]) := hV 0 (by decide)
    have e1 : x 1 = (.agg #[.int .i64 P, .slice A n c]) := hV 1 (by decide)
    obtain ⟨A2, c2, e2, h2⟩ := hV 2 (by decide)
    have e3 : x 3 = (.bool true) := hV 3 (by decide)
    obtain ⟨q0, q1⟩ := hS.1.two; obtain ⟨p0, p1⟩ := hS.2.1.two
    go_simp
    exact hK.out _ _ _ rfl rfl rfl (Below.refl _ _)
  simp only [List.setIfInBounds_toArray, List.set_cons_zero, List.set_cons_succ]
  refine fun w' hS hV => ?_
  have e0 : x 0 = (.agg #[.int .i64 P, .slice S2 n s2]) := hV 0 (by decide)
  have e1 : x 1 = (.agg #[.int .i64 P, .slice A n c]) := hV 1 (by decide)
  obtain ⟨A2, c2, e2, h2⟩ := hV 2 (by decide)
  have e3 : x 3 = (.bool true) := hV 3 (by decide)
  have e4 : x 4 = (.bool false) := hV 4 (by decide)
  simp only [e0, e1, e2, e3, e4]
  clear e0 e1 e2 e3 e4
  refine wpAny_done (by kernel_rfl) ?_ _
  obtain ⟨t1, t2, t3, t4⟩ := hS
  clear q0 q1 p0 p1 k7 hB7 j0 h2
  have mS2_ := mS2.below t4
  clear mS2
  have mS2 := mS2_
  clear mS2_
  have oW_ := oW.below t4
  clear oW
  have oW := oW_
  clear oW_
  have oG_ := oG.below t4
  clear oG
  have oG := oG_
  clear oG_
  have k8 := t1
  have j0 := t2
  have hB8 := t3
  clear t1 t2 t3 t4
  obtain ⟨w8, rfl⟩ : ∃ W, W = w' := ⟨_, rfl⟩
  obtain ⟨q0, q1⟩ := k8.two
  obtain ⟨p0, p1⟩ := j0.two
  have oS := mS2.2
  clear mS2
  have zB := hB8.size
  go_wp2_with fail
  refine (markSpace_any _ P S2 n s2 sq 1 _ (by omega) (by omega) (by omega) oS).mono ?_
  rintro e w9 ⟨rfl, om, hg⟩
  have k9 := k8.grown hg (Own.ne_blk oS k8 (by decide))
  have j0_ := j0.grown hg (Own.ne_blk oS j0 (by decide))
  have hB9 := (oS.base (B' := w.heap.size) (by omega)).grown_below hg hB8 hB8.size
  have oG_ := oG.grown hg (apSG.symm.symm.row)
  have oW_ := oW.grown hg (apWS.symm.row)
  clear q0 q1 p0 p1 k8 hB8 j0 hg oS oG oW
  have j0 := j0_
  clear j0_
  have oG := oG_
  clear oG_
  have oW := oW_
  clear oW_
  have oS := om
  clear om
  obtain ⟨q0, q1⟩ := k9.two
  obtain ⟨p0, p1⟩ := j0.two
  have dk : decide (1 + (n : Int) < 0) = false := by simp; omega
  go_wp2_with fail
  refine (eqInt64S_same G0 W0 kg kw cg cw R.1 _ (by omega) (by omega) oG.rd oW.rd).mono ?_
  rintro e w10 ⟨rfl, hbe⟩
  have hB10 := hB9.trans (hbe.mono hB9.size)
  have k10 := k9.below hbe k9.lt
  have j0_ := j0.below hbe j0.lt
  have oS_ := oS.below hbe
  have oG_ := oG.below hbe
  have oW_ := oW.below hbe
  clear q0 q1 p0 p1 k9 hB9 j0 oS oG oW
  have j0 := j0_
  clear j0_
  have oS := oS_
  clear oS_
  have oG := oG_
  clear oG_
  have oW := oW_
  clear oW_
  obtain ⟨q0, q1⟩ := k10.two
  obtain ⟨p0, p1⟩ := j0.two
  clear hbe dk
  go_wp2_with fail
  refine (markInt64S_any _ G0 kg cg R.1 1 _ (by omega) (by omega) (by omega) oG).mono ?_
  rintro e w11 ⟨rfl, om, hg⟩
  have k11 := k10.grown hg (Own.ne_blk oG k10 (by decide))
  have j0_ := j0.grown hg (Own.ne_blk oG j0 (by decide))
  have hB11 := (oG.base (B' := w.heap.size) (by omega)).grown_below hg hB10 hB10.size
  have oS_ := oS.grown hg (apSG.symm.row)
  have oW_ := oW.grown hg (apWG.symm.row)
  clear q0 q1 p0 p1 k10 hB10 j0 hg oS oG oW
  have j0 := j0_
  clear j0_
  have oS := oS_
  clear oS_
  have oW := oW_
  clear oW_
  have oG := om
  clear om
  obtain ⟨q0, q1⟩ := k11.two
  obtain ⟨p0, p1⟩ := j0.two
  have dg : decide (1 + (kg : Int) < 0) = false := by simp; omega
  go_wp2_with fail
  refine (heldInt64S_any G0 kg cg 1 _ (by omega) (by omega) (by omega) oG.rd).mono ?_
  rintro e w12 ⟨rfl, rfl⟩
  go_wp2_with fail
  refine (toSpace_any P A n c sq _ (by omega) (ha.below hB11)).mono ?_
  rintro e w12 ⟨S4, s4, rfl, mS4⟩
  have hB12 := hB11.trans (mS4.b.mono hB11.size)
  have k12 := k11.below mS4.b k11.lt
  have j0_ := j0.below mS4.b j0.lt
  have oG_ := oG.below mS4.b
  have oW_ := oW.below mS4.b
  clear q0 q1 p0 p1 k11 hB11 j0 oG oW
  have j0 := j0_
  clear j0_
  have oG := oG_
  clear oG_
  have oW := oW_
  clear oW_
  obtain ⟨q0, q1⟩ := k12.two
  obtain ⟨p0, p1⟩ := j0.two
  go_wp2_with fail
  refine (ParseMultivector_any P S4 n s4 sq t  _ hn (by omega)  mS4.rd  (he.below hB12 (Nat.le_refl _))).mono ?_
  rintro e w13 ⟨G1, k1g, c1g, rfl, mG1⟩
  rw [← HR.out] at mG1 ⊢
  have hB13 := hB12.trans (mG1.b.mono hB12.size)
  have k13 := k12.below mG1.b k12.lt
  have j0_ := j0.below mG1.b j0.lt
  have oG_ := oG.below mG1.b
  have oW_ := oW.below mG1.b
  clear q0 q1 p0 p1 k12 hB12 j0 oG oW
  have j0 := j0_
  clear j0_
  have oG := oG_
  clear oG_
  have oW := oW_
  clear oW_
  obtain ⟨q0, q1⟩ := k13.two
  obtain ⟨p0, p1⟩ := j0.two
  have hk1 : k1g ≤ 1048576 := by have := Rd.lenI mG1.rd; omega
  go_wp2_with fail
  refine (eqInt64S_same G1 W0 k1g kw c1g cw R.1 _ (by omega) (by omega) mG1.rd oW.rd).mono ?_
  rintro e w14 ⟨rfl, hbe⟩
  have hB14 := hB13.trans (hbe.mono hB13.size)
  have k14 := k13.below hbe k13.lt
  have j0_ := j0.below hbe j0.lt
  have oG_ := oG.below hbe
  clear q0 q1 p0 p1 k13 hB13 j0 oG
  have j0 := j0_
  clear j0_
  have oG := oG_
  clear oG_
  obtain ⟨q0, q1⟩ := k14.two
  obtain ⟨p0, p1⟩ := j0.two
  clear hbe
  go_wp2_with fail
  refine (heldInt64S_any G0 kg cg 1 _ (by omega) (by omega) (by omega) oG.rd).mono ?_
  rintro e w15 ⟨rfl, rfl⟩
  go_wp2
  go_ret
  exact ⟨rfl, hB14⟩
theorem fnExactParseMultivector_all (P : Int) (A : Option Addr) (n c : Nat) (sq : List Int)  (t : By) (w : World) (hn : n ≤ 9223372036854775807)  (he : Env w) (ha : Rd w A n (ints sq))  :
    Calls Tryd.prog 3 #[.agg #[.int .i64 P, .slice A n c], .string ⟨t.toArray⟩] w fun e w' => e = .returned (.bool true) ∧ Below w.heap.size w w' := by
  have hB0 : Below w.heap.size w (w.alloc (.cells #[.int .i64 P, .slice A n c] 24)) := (Below.refl _ _).alloc (Nat.le_refl _) _
  by_cases cT : t.length ≤ 1048576
  rotate_left
  · have dT : decide (1048576 < (t.length : Int)) = true := by simp; omega
    clear cT
    go_enter Tryd.func3, Tryd.ntmps3
    go_wp2
    go_ret
    exact ⟨rfl, hB0⟩
  have dT : decide (1048576 < (t.length : Int)) = false := by simp; omega
  by_cases cn : n ≤ 1048576
  · exact fnExactParseMultivector_fits P A n c sq  t w cn  he ha  cT
  · have hz : szL n 1048576 = -1 := by unfold szL; rw [if_pos (by omega)]
    go_enter Tryd.func3, Tryd.ntmps3
    go_wp2_with fail
    refine (szSpace_any P A n c 1048576 _ hn (by omega) (by omega)).mono ?_
    rintro e w1 ⟨rfl, hb1⟩
    rw [hz]
    go_wp2
    go_ret
    exact ⟨rfl, hB0.trans (hb1.mono (by simp))⟩
namespace fnExactParseMultivector
theorem own : ownKnob Tryd.prog.godebug = none := by kernel_rfl
set_option maxRecDepth 100000 in
theorem lifted (os : Os) (started : os.Started) (H : Type) (enc : TypeId × Value → H) :
    ReturnsInHanded {} Tryd.checked os 3 .any ((OpenSpec.ofChange Rows.fnExactParseMultivectorSpec).preRow enc Tryd.prog Tryd.f3 [] false Rows.fnExactParseMultivectorRow.laid) (((OpenSpec.ofChange Rows.fnExactParseMultivectorSpec).at (fun _ _ _ => 0)).post enc Tryd.prog Tryd.f3 false true false false) := by
  have hwit := ChangeSpec.witness_shaped (enc := enc) (C := Tryd.checked) (os := os) (f := 3) (fn := Tryd.f3) (s := Rows.fnExactParseMultivectorSpec) (conds := []) (apart := false) (X := fun w _ => laidMetH Tryd.prog Rows.fnExactParseMultivectorRow.laid w) false (World.laidAll Tryd.prog os Rows.fnExactParseMultivectorRow.laid) #[.agg #[.int .i64 0, .slice none 0 0], .string ⟨#[]⟩] 8 (World.laidAll_os _ _ _)
    (World.shaped_of_ZipB (by kernel_rfl) (by kernel_rfl)) (by kernel_rfl) (by kernel_rfl) (by kernel_rfl)
    (by rw [MakeChecks.laidMetH_plain _ _ _ (by kernel_rfl)]; exact laidMet_laidAll _ (by kernel_rfl) (by kernel_rfl))
  refine returnsInHanded_of_row (C := Tryd.checked) (s := OpenSpec.ofChange Rows.fnExactParseMultivectorSpec) own started (by kernel_rfl) Tryd.func3 hwit ?_
  intro W base args ds gs before hval0 hW _ _ _ hL hsh _
  have hval : ∀ (j : Nat) t v, Tryd.f3.params[j]? = some t → args[j]? = some v → Value.okWide Tryd.prog W .any base t v := hval0
  have hW' := hW
  obtain ⟨p, q, hA0, hV, rfl, hfz, hnd⟩ := hW
  have hA : DataW.TrodAll enc Tryd.prog W 0 (fun _ => true) true Tryd.f3.params.toList args.toList ds p := hA0
  rw [Tryd.params3] at hA hval
  obtain ⟨v0, v1, d0, d1, p0, p1, rfl, rfl, rfl, h0, h1⟩ := trodAll_two hA
  obtain ⟨rfl, rfl⟩ := trodVars_none hV
  obtain ⟨cs, rfl, hsz⟩ := okWide_struct Tryd.underlying24 (hval 0 24 v0 rfl rfl)
  simp only [List.append_nil] at hW'
  obtain ⟨fuel0, hf0⟩ := id h0
  obtain ⟨P, A, n, c, sq, hcs, hnc, hn, ra⟩ := openSp hf0
  have hagg : cs = #[.int .i64 P, .slice A n c] := by simp [Value.cells] at hcs; cases cs; simp at hcs; rw [hcs]
  subst hagg
  obtain ⟨t, e1, e2, e3, wt⟩ := Go.ChangeMaps.open_string Tryd.underlying9 (hval 1 9 v1 rfl rfl) h1
  clear hA0 hval0
  rw [MakeChecks.laidMetH_plain _ _ _ (by kernel_rfl)] at hL
  have he : Env W := env_of hsh hL (by kernel_rfl)
  have ha := fnExactParseMultivector_all P A n c sq t.data.toList W hn he ra
  rw [← bs_of t, ← e1] at ha
  refine ha.mono fun e' W' ⟨he, hg⟩ => ?_
  subst he
  exact ⟨_, rfl, post_below (pa := p0 ++ p1) (pv := []) hW' (fun _ _ _ => (trodAll_cons_mk (shut_bool Tryd.underlying4 _) trodAll_mk0))
    (fun sp hs => trodAll_mk2 (WideElems.Trod_stays (by kernel_rfl) (by kernel_rfl) (of_decide_eq_true (by kernel_rfl)) h0 (fun x hx => hg.same (hW'.lt x (by simp [hx]))) (fun x hx => hs x (by simp [hx]))) (WideElems.Trod_stays (by kernel_rfl) (by kernel_rfl) (of_decide_eq_true (by kernel_rfl)) h1 (fun x hx => hg.same (hW'.lt x (by simp [hx]))) (fun x hx => hs x (by simp [hx])))) (fun _ _ => rfl) (by simp) hg
    (ok_one (by kernel_rfl) rfl (okWide_bool_mk Tryd.underlying4 _))⟩
theorem over : Rows.FnExactParseMultivectorSaid :=
  OpenClaim.holds_of_wide 3 Tryd.f3 rfl rfl rfl rfl rfl rfl rfl ⟨rfl, rfl, rfl, rfl, rfl⟩ rfl rfl rfl rfl rfl (by kernel_rfl) Tryd.func3 (by kernel_rfl)
    (of_decide_eq_true (by kernel_rfl)) (by unfold Func.isWrapper; first | (rw [if_pos (by decide +kernel)]; kernel_rfl) | (rw [if_neg (by decide +kernel)]; exact ⟨rfl, rfl⟩))
    (fun os started H enc _ => by rw [OpenClaim.pre_eq_preRow]; exact lifted os started H enc)
theorem params_plain : ∀ (j : Nat) t, Tryd.f3.params[j]? = some t → Tryd.prog.wantsStandIn t = false := fun j t ht => by
  rw [Tryd.params3] at ht
  have hm : t ∈ [24, 9] := by simpa using Array.mem_of_getElem? ht
  have hall : ([24, 9].all fun u => !Tryd.prog.wantsStandIn u) = true := by kernel_rfl
  exact (show Tryd.prog.wantsStandIn t = false by simpa using List.all_eq_true.1 hall t hm)
theorem proved : Rows.FnExactParseMultivectorCardSaid :=
  Claim7.holds_tied_plain_at .later [] [.data, .data, .data, .data, .pinned] true (true, "c9ba8bb2aa79e86da907cbce162bd53cc3e03b9333e9c5c0962fec61436349f1") false
    over (fun _ h => by cases h) (by kernel_rfl) (fun _ h => by cases h) fnExactParseMultivector_row_tie rfl ⟨rfl, rfl⟩ (by kernel_rfl) rfl
    (fun f fn hf hfn => by
      obtain rfl : f = 3 := Option.some.inj (hf.symm.trans (show Tryd.prog.funcNamed Rows.fnExactParseMultivectorRow.func = some 3 by kernel_rfl))
      obtain rfl : fn = Tryd.f3 := (Option.some.inj (Tryd.func3.symm.trans hfn)).symm
      exact ⟨by kernel_rfl, params_plain⟩)
    (by kernel_rfl)
#print axioms proved
end fnExactParseMultivector
end Go.Proofs.YticofgmmjecleaaDoor
