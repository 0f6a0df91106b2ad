/-
  LawFnBivectors: part 6 of the texts that the proof needs. No condition.
-/
import Derived.Test.YtggigolkncckoaaGreatP5
namespace Go.Proofs.YtggigolkncckoaaGreat
open Go.RowKit
theorem codeR_mk {P : Int} {sq : List Int} {ms : List (List Int)} (h1 : isSp P sq = true) (hr : regB sq = true) (h : ∀ ys ∈ ms, ys.length = pw sq.length ∧ NumsL P ys) : codeR P sq ms = 0 := by
  unfold codeR
  rw [if_pos (codeM_mk h1 h), hr]; rfl
set_option maxHeartbeats 1600000 in
theorem IsBivector_ok (P : Int) (A : Option Addr) (n c : Nat) (sq : List Int) (X : Option Addr) (m cx : Nat) (xs : List Int) (w : World) (hsp : isSp P sq = true) (hreg : regB sq = true) (ha : Rd w A n (ints sq)) (hx : Rd w X m (ints xs)) (hcx : m ≤ cx) (hm : m = pw n) (hv : NumsL P xs) :
    Calls Tryz.prog 63 #[.agg #[.int .i64 P, .slice A n c], .slice X m cx] w fun e w' => e = .returned (.tuple #[.bool (onlyL xs 2), .int .i64 0]) ∧ Below w.heap.size w w' := by
  have hB0 : Below w.heap.size w (w.alloc (.cells #[.int .i64 P, .slice A n c] 26)) := (Below.refl _ _).alloc (Nat.le_refl _) _
  have k0 : Blk (w.alloc (.cells #[.int .i64 P, .slice A n c] 26)) w.heap.size 26 #[.int .i64 P, .slice A n c] := Blk.new _ _ _
  have hsl := ha.lenI
  obtain ⟨HP, hd1, hd2, hnum⟩ := isSp_dim hsp
  have hpw : pw n ≤ 64 := pw_le (show n ≤ 6 by omega)
  rw [hsl] at hd1 hd2
  have hB1 : Below w.heap.size w ((w.alloc (.cells #[.int .i64 P, .slice A n c] 26)).alloc (.cells #[.slice X m cx] 24)) := hB0.alloc (by simp) _
  have k1 : Blk ((w.alloc (.cells #[.int .i64 P, .slice A n c] 26)).alloc (.cells #[.slice X m cx] 24)) w.heap.size 26 #[.int .i64 P, .slice A n c] := k0.alloc _
  have hck := checkRegular_any P A (some ⟨w.heap.size + 1, 0, none⟩) n c 1 1 sq [xs] ((w.alloc (.cells #[.int .i64 P, .slice A n c] 26)).alloc (.cells #[.slice X m cx] 24)) (by omega) (by omega) (ha.below hB1) (rdII_one' (Blk.newAt3 (by simp)) (hx.below hB1) hcx) (all_one (by rw [hx.lenI]; omega))
  rw [codeR_mk hsp hreg (all_one ⟨by rw [hx.lenI, hm, hsl], hv⟩)] at hck
  obtain ⟨b, hb⟩ : ∃ b, b = onlyL xs 2 := ⟨_, rfl⟩
  have hib := fun w' (h : Below w.heap.size w w') => isBivector_any X m cx xs w' (by omega) (hx.below h)
  rw [← hb] at hib ⊢
  obtain ⟨q0, q1⟩ := k1.two
  clear hsl hnum hv hsp k0 hB0 HP hreg hm hb
  go_enter Tryz.func63, Tryz.ntmps63
  go_wp2_with fail
  refine hck.mono ?_
  rintro e w2 ⟨rfl, hb2⟩
  have hB2 := hB1.trans (hb2.mono hB1.size)
  have k2 := k1.below hb2 k1.lt
  clear q0 q1 hck
  obtain ⟨q0, q1⟩ := k2.two
  go_wp2_with fail
  refine (hib w2 hB2).mono ?_
  rintro e w3 ⟨rfl, hb3⟩
  go_wp2
  go_ret2
  exact ⟨rfl, hB2.trans (hb3.mono hB2.size)⟩
set_option maxHeartbeats 1600000 in
theorem PairOf_ok (P : Int) (A : Option Addr) (n c : Nat) (sq : List Int) (X : Option Addr) (cx : Nat) (v : List Int) (Y : Option Addr) (cy : Nat) (u : List Int) (w : World) (hsp : isSp P sq = true) (ha : Rd w A n (ints sq)) (hx : Rd w X n (ints v)) (hcx : n ≤ cx) (hv : NumsL P v) (hy : Rd w Y n (ints u)) (hcy : n ≤ cy) (hu : NumsL P u) :
    Calls Tryz.prog 68 #[.agg #[.int .i64 P, .slice A n c], .slice X n cx, .slice Y n cy] w fun e w' => e = .returned (.tuple #[.int .i64 (pairL P sq v u), .int .i64 0]) ∧ Below w.heap.size w w' := by
  have hB0 : Below w.heap.size w (w.alloc (.cells #[.int .i64 P, .slice A n c] 26)) := (Below.refl _ _).alloc (Nat.le_refl _) _
  have k0 : Blk (w.alloc (.cells #[.int .i64 P, .slice A n c] 26)) w.heap.size 26 #[.int .i64 P, .slice A n c] := Blk.new _ _ _
  have hsl := ha.lenI
  obtain ⟨HP, hd1, hd2, hnum⟩ := isSp_dim hsp
  obtain ⟨hp3, hp2⟩ := isP_ge HP
  have hB1 : Below w.heap.size w ((w.alloc (.cells #[.int .i64 P, .slice A n c] 26)).alloc (.cells #[.slice X n cx, .slice Y n cy] 24)) := hB0.alloc (by simp) _
  have k1 : Blk ((w.alloc (.cells #[.int .i64 P, .slice A n c] 26)).alloc (.cells #[.slice X n cx, .slice Y n cy] 24)) w.heap.size 26 #[.int .i64 P, .slice A n c] := k0.alloc _
  have hck := checkVectors_any P A (some ⟨w.heap.size + 1, 0, none⟩) n c 2 2 sq [v, u] ((w.alloc (.cells #[.int .i64 P, .slice A n c] 26)).alloc (.cells #[.slice X n cx, .slice Y n cy] 24)) (by omega) (by omega) (ha.below hB1) (rdII_two (Blk.newAt3 (by simp)) (hx.below hB1) (hy.below hB1) hcx hcy) (all_two (by rw [hx.lenI]; omega) (by rw [hy.lenI]; omega))
  rw [codeV_mk hsp (all_two (isVe_mk (by rw [hx.lenI, hsl]) hv) (isVe_mk (by rw [hy.lenI, hsl]) hu))] at hck
  have hpr := Lib.hid fun w' (h : Below w.heap.size w w') => pair_any P A n c sq X cx v Y cy u w' (by omega) hp2 (by omega) (ha.below h) (nums_numsL hnum) (hx.below h) hv (hy.below h) hu
  rw [hsl] at hd1 hd2
  obtain ⟨q0, q1⟩ := k1.two
  clear hsl hnum hv hu hsp k0 hB0
  go_enter Tryz.func68, Tryz.ntmps68
  go_wp2_with fail
  refine hck.mono ?_
  rintro e w2 ⟨rfl, hb2⟩
  have hB2 := hB1.trans (hb2.mono hB1.size)
  have k2 := k1.below hb2 k1.lt
  have hcall := hpr.out w2 hB2
  clear q0 q1 hck
  obtain ⟨q0, q1⟩ := k2.two
  go_wp2_with fail
  refine hcall.mono ?_
  rintro e w3 ⟨rfl, hb3⟩
  go_wp2
  go_ret2
  exact ⟨rfl, hB2.trans (hb3.mono hB2.size)⟩
set_option maxHeartbeats 3200000 in
set_option maxRecDepth 8000 in
theorem BivectorOfVectors_ok (P : Int) (A : Option Addr) (n c : Nat) (sq : List Int) (X : Option Addr) (cx : Nat) (v : List Int) (Y : Option Addr) (cy : Nat) (u : List Int) (w : World) (hsp : isSp P sq = true) (hreg : regB sq = true) (ha : Rd w A n (ints sq)) (hx : Rd w X n (ints v)) (hcx : n ≤ cx) (hv : NumsL P v) (hy : Rd w Y n (ints u)) (hcy : n ≤ cy) (hu : NumsL P u) :
    Calls Tryz.prog 66 #[.agg #[.int .i64 P, .slice A n c], .slice X n cx, .slice Y n cy] w fun e w' => ∃ (A' : Option Addr) (c' : Nat), e = .returned (.tuple #[.slice A' (pw n) c', .int .i64 0]) ∧ MkI w w' A' (pw n) c' (wedgeL P sq (vecTo n v n) (vecTo n u n)) := by
  have hB0 : Below w.heap.size w (w.alloc (.cells #[.int .i64 P, .slice A n c] 26)) := (Below.refl _ _).alloc (Nat.le_refl _) _
  have k0 : Blk (w.alloc (.cells #[.int .i64 P, .slice A n c] 26)) w.heap.size 26 #[.int .i64 P, .slice A n c] := Blk.new _ _ _
  have hsl := ha.lenI
  obtain ⟨HP, hd1, hd2, hnum⟩ := isSp_dim hsp
  obtain ⟨hp3, hp2⟩ := isP_ge HP
  have hB1 : Below w.heap.size w ((w.alloc (.cells #[.int .i64 P, .slice A n c] 26)).alloc (.cells #[.slice X n cx, .slice Y n cy] 24)) := hB0.alloc (by simp) _
  have k1 : Blk ((w.alloc (.cells #[.int .i64 P, .slice A n c] 26)).alloc (.cells #[.slice X n cx, .slice Y n cy] 24)) w.heap.size 26 #[.int .i64 P, .slice A n c] := k0.alloc _
  have hck := checkVersV_any P A (some ⟨w.heap.size + 1, 0, none⟩) n c 2 2 sq [v, u] ((w.alloc (.cells #[.int .i64 P, .slice A n c] 26)).alloc (.cells #[.slice X n cx, .slice Y n cy] 24)) (by omega) (by omega) (ha.below hB1) (rdII_two (Blk.newAt3 (by simp)) (hx.below hB1) (hy.below hB1) hcx hcy) (all_two (by rw [hx.lenI]; omega) (by rw [hy.lenI]; omega))
  have hcv : codeVb P sq [v, u] = 0 := by
    unfold codeVb
    rw [codeV_mk hsp (all_two (isVe_mk (by rw [hx.lenI, hsl]) hv) (isVe_mk (by rw [hy.lenI, hsl]) hu)), hreg]; rfl
  rw [hcv] at hck
  rw [hsl] at hd1 hd2
  have hS0 := nums_numsL hnum
  have hv1 := fun w' (h : Below w.heap.size w w') => vector_any P A n c X cx v w' (by omega) (hx.below h)
  have hv2 := fun w' (h : Below w.heap.size w w') => vector_any P A n c Y cy u w' (by omega) (hy.below h)
  have hwd := fun (w' : World) (A1 : Option Addr) (c1 : Nat) (A2 : Option Addr) (c2 : Nat) (h : Below w.heap.size w w') (h1 : Rd w' A1 (pw n) (ints (vecTo n v n))) (h2 : Rd w' A2 (pw n) (ints (vecTo n u n))) => wedge_any P A n c sq A1 c1 (vecTo n v n) A2 c2 (vecTo n u n) w' (by omega) hp2 (by omega) (ha.below h) hS0 h1 (vecTo_nums (by omega) n v hv n) h2 (vecTo_nums (by omega) n u hu n)
  obtain ⟨WW, hWW⟩ : ∃ a, a = wedgeL P sq (vecTo n v n) (vecTo n u n) := ⟨_, rfl⟩
  obtain ⟨VV, hVV⟩ : ∃ a, a = vecTo n v n := ⟨_, rfl⟩
  obtain ⟨VU, hVU⟩ : ∃ a, a = vecTo n u n := ⟨_, rfl⟩
  rw [← hWW] at hwd ⊢
  rw [← hVV] at hwd hv1
  rw [← hVU] at hwd hv2
  obtain ⟨q0, q1⟩ := k1.two
  clear hsl hnum hv hu hsp k0 hB0 hWW hVV hVU HP hreg hcv hS0
  go_enter Tryz.func66, Tryz.ntmps66
  go_wp2_with fail
  refine hck.mono ?_
  rintro e w2 ⟨rfl, hb2⟩
  have hB2 := hB1.trans (hb2.mono hB1.size)
  have k2 := k1.below hb2 k1.lt
  have HV1 := Lib.hid fun w' (h : Below w2.heap.size w2 w') => hv1 w' (hB2.trans (h.mono hB2.size))
  have HV2 := Lib.hid fun w' (h : Below w2.heap.size w2 w') => hv2 w' (hB2.trans (h.mono hB2.size))
  have HWD := Lib.hid fun (w' : World) (A1 : Option Addr) (c1 : Nat) (A2 : Option Addr) (c2 : Nat) (h : Below w2.heap.size w2 w') h1 h2 => hwd w' A1 c1 A2 c2 (hB2.trans (h.mono hB2.size)) h1 h2
  clear q0 q1 hck hv1 hv2 hwd
  obtain ⟨q0, q1⟩ := k2.two
  go_wp2
  refine wp_obs 10 [[], [], [], [1, 2], [], [], [4, 5], [0, 1, 2, 3, 4, 5, 6], [0, 1, 2, 3, 4, 5, 6, 7], []] [VIs (.agg #[.int .i64 P, .slice A n c]), VIs (.agg #[.int .i64 P, .slice A n c]), VIs (.slice X n cx), VSl w2 (pw n) VV, VIs (.agg #[.int .i64 P, .slice A n c]), VIs (.slice Y n cy), VSl w2 (pw n) VU, VSl w2 (pw n) WW, VSl w2 (pw n) WW, VIs (.int .i64 0)] (fun w' => Blk w' w.heap.size 26 #[.int .i64 P, .slice A n c] ∧ Below w2.heap.size w2 w') (by kernel_rfl) (by kernel_rfl) (fun _ _ h hb => ⟨h.1.below hb h.1.lt, h.2.trans (hb.mono h.2.size)⟩) (⟨k2.drew, (Below.refl _ _).drew⟩) (fun x => ?_)
  refine obs_step (Eq.trans (by simp only [List.getElem?_toArray, List.getElem?_cons_zero]; exact rfl) rfl) rfl (fun w' hS hV K hK => ?_) ?_
  · obtain ⟨q0, q1⟩ := hS.1.two
    go_simp
    exact hK.out _ _ _ rfl rfl rfl (Below.refl _ _)
  simp only [List.setIfInBounds_toArray, List.set_cons_zero, List.set_cons_succ]
  refine obs_step (Eq.trans (by simp only [List.getElem?_toArray, List.getElem?_cons_succ, List.getElem?_cons_zero]; exact rfl) rfl) rfl (fun w' hS hV K hK => ?_) ?_
  · obtain ⟨q0, q1⟩ := hS.1.two
    go_simp
    exact hK.out _ _ _ rfl rfl rfl (Below.refl _ _)
  simp only [List.setIfInBounds_toArray, List.set_cons_zero, List.set_cons_succ]
  refine obs_step (Eq.trans (by simp only [List.getElem?_toArray, List.getElem?_cons_succ, List.getElem?_cons_zero]; exact rfl) rfl) rfl (fun w' hS hV K hK => ?_) ?_
  · obtain ⟨q0, q1⟩ := hS.1.two
    go_simp
    exact hK.out _ _ _ rfl rfl rfl (Below.refl _ _)
  simp only [List.setIfInBounds_toArray, List.set_cons_zero, List.set_cons_succ]
  refine obs_step (Eq.trans (by simp only [List.getElem?_toArray, List.getElem?_cons_succ, List.getElem?_cons_zero]; exact rfl) rfl) rfl (fun w' hS hV K hK => ?_) ?_
  · have e1 : x 1 = (.agg #[.int .i64 P, .slice A n c]) := hV 1 (by decide)
    have e2 : x 2 = (.slice X n cx) := hV 2 (by decide)
    obtain ⟨q0, q1⟩ := hS.1.two
    go_simp
    refine (HV1.out _ hS.2).mono ?_
    rintro e v1 ⟨A9, c9, rfl, hM⟩
    exact hK.out _ _ _ rfl rfl ⟨_, _, rfl, hM.after hS.2⟩ hM.b
  simp only [List.setIfInBounds_toArray, List.set_cons_zero, List.set_cons_succ]
  refine obs_step (Eq.trans (by simp only [List.getElem?_toArray, List.getElem?_cons_succ, List.getElem?_cons_zero]; exact rfl) rfl) rfl (fun w' hS hV K hK => ?_) ?_
  · obtain ⟨q0, q1⟩ := hS.1.two
    go_simp
    exact hK.out _ _ _ rfl rfl rfl (Below.refl _ _)
  simp only [List.setIfInBounds_toArray, List.set_cons_zero, List.set_cons_succ]
  refine obs_step (Eq.trans (by simp only [List.getElem?_toArray, List.getElem?_cons_succ, List.getElem?_cons_zero]; exact rfl) rfl) rfl (fun w' hS hV K hK => ?_) ?_
  · obtain ⟨q0, q1⟩ := hS.1.two
    go_simp
    exact hK.out _ _ _ rfl rfl rfl (Below.refl _ _)
  simp only [List.setIfInBounds_toArray, List.set_cons_zero, List.set_cons_succ]
  refine obs_step (Eq.trans (by simp only [List.getElem?_toArray, List.getElem?_cons_succ, List.getElem?_cons_zero]; exact rfl) rfl) rfl (fun w' hS hV K hK => ?_) ?_
  · have e4 : x 4 = (.agg #[.int .i64 P, .slice A n c]) := hV 4 (by decide)
    have e5 : x 5 = (.slice Y n cy) := hV 5 (by decide)
    obtain ⟨q0, q1⟩ := hS.1.two
    go_simp
    refine (HV2.out _ hS.2).mono ?_
    rintro e v1 ⟨A9, c9, rfl, hM⟩
    exact hK.out _ _ _ rfl rfl ⟨_, _, rfl, hM.after hS.2⟩ hM.b
  simp only [List.setIfInBounds_toArray, List.set_cons_zero, List.set_cons_succ]
  refine obs_step (Eq.trans (by simp only [List.getElem?_toArray, List.getElem?_cons_succ, List.getElem?_cons_zero]; exact rfl) rfl) rfl (fun w' hS hV K hK => ?_) ?_
  · have e0 : x 0 = (.agg #[.int .i64 P, .slice A n c]) := hV 0 (by decide)
    have e1 : x 1 = (.agg #[.int .i64 P, .slice A n c]) := hV 1 (by decide)
    have e2 : x 2 = (.slice X n cx) := hV 2 (by decide)
    obtain ⟨A3, c3, e3, h3⟩ := hV 3 (by decide)
    have e4 : x 4 = (.agg #[.int .i64 P, .slice A n c]) := hV 4 (by decide)
    have e5 : x 5 = (.slice Y n cy) := hV 5 (by decide)
    obtain ⟨A6, c6, e6, h6⟩ := hV 6 (by decide)
    obtain ⟨q0, q1⟩ := hS.1.two
    go_simp
    refine (HWD.out _ _ _ _ _ hS.2 h3.rd h6.rd).mono ?_
    rintro e v1 ⟨A9, c9, rfl, hM⟩
    exact hK.out _ _ _ rfl rfl ⟨_, _, rfl, hM.after hS.2⟩ hM.b
  simp only [List.setIfInBounds_toArray, List.set_cons_zero, List.set_cons_succ]
  refine obs_step (Eq.trans (by simp only [List.getElem?_toArray, List.getElem?_cons_succ, List.getElem?_cons_zero]; exact rfl) rfl) rfl (fun w' hS hV K hK => ?_) ?_
  · have e0 : x 0 = (.agg #[.int .i64 P, .slice A n c]) := hV 0 (by decide)
    have e1 : x 1 = (.agg #[.int .i64 P, .slice A n c]) := hV 1 (by decide)
    have e2 : x 2 = (.slice X n cx) := hV 2 (by decide)
    obtain ⟨A3, c3, e3, h3⟩ := hV 3 (by decide)
    have e4 : x 4 = (.agg #[.int .i64 P, .slice A n c]) := hV 4 (by decide)
    have e5 : x 5 = (.slice Y n cy) := hV 5 (by decide)
    obtain ⟨A6, c6, e6, h6⟩ := hV 6 (by decide)
    obtain ⟨A7, c7, e7, h7⟩ := hV 7 (by decide)
    obtain ⟨q0, q1⟩ := hS.1.two
    go_simp
    exact hK.out _ _ _ rfl rfl ⟨_, _, rfl, h7⟩ (Below.refl _ _)
  simp only [List.setIfInBounds_toArray, List.set_cons_zero, List.set_cons_succ]
  refine obs_step (Eq.trans (by simp only [List.getElem?_toArray, List.getElem?_cons_succ, List.getElem?_cons_zero]; exact rfl) rfl) rfl (fun w' hS hV K hK => ?_) ?_
  · obtain ⟨q0, q1⟩ := hS.1.two
    go_simp
    exact hK.out _ _ _ rfl rfl rfl (Below.refl _ _)
  simp only [List.setIfInBounds_toArray, List.set_cons_zero, List.set_cons_succ]
  refine fun w' hS hV => ?_
  have e0 : x 0 = (.agg #[.int .i64 P, .slice A n c]) := hV 0 (by decide)
  have e1 : x 1 = (.agg #[.int .i64 P, .slice A n c]) := hV 1 (by decide)
  have e2 : x 2 = (.slice X n cx) := hV 2 (by decide)
  obtain ⟨A3, c3, e3, h3⟩ := hV 3 (by decide)
  have e4 : x 4 = (.agg #[.int .i64 P, .slice A n c]) := hV 4 (by decide)
  have e5 : x 5 = (.slice Y n cy) := hV 5 (by decide)
  obtain ⟨A6, c6, e6, h6⟩ := hV 6 (by decide)
  obtain ⟨A7, c7, e7, h7⟩ := hV 7 (by decide)
  obtain ⟨A8, c8, e8, h8⟩ := hV 8 (by decide)
  have e9 : x 9 = (.int .i64 0) := hV 9 (by decide)
  simp only [e0, e1, e2, e3, e4, e5, e6, e7, e8, e9]
  clear e0 e1 e2 e3 e4 e5 e6 e7 e8 e9
  refine wpAny_done (by kernel_rfl) ?_ _
  go_wp2
  go_ret2
  exact ⟨_, _, rfl, h8.after hB2⟩
/-- How many bivectors a space of dimension n has in a basis. -/
def cbN (n : Nat) : Int := (n : Int) * ((n : Int) - 1) / 2
set_option maxHeartbeats 1600000 in
theorem CountBivectors_ok (P : Int) (A : Option Addr) (n c : Nat) (sq : List Int) (w : World) (hsp : isSp P sq = true) (hreg : regB sq = true) (ha : Rd w A n (ints sq)) :
    Calls Tryz.prog 69 #[.agg #[.int .i64 P, .slice A n c]] w fun e w' => e = .returned (.tuple #[.int .i64 (cbN n), .int .i64 0]) ∧ Below w.heap.size w w' := by
  have hB0 : Below w.heap.size w (w.alloc (.cells #[.int .i64 P, .slice A n c] 26)) := (Below.refl _ _).alloc (Nat.le_refl _) _
  have k0 : Blk (w.alloc (.cells #[.int .i64 P, .slice A n c] 26)) w.heap.size 26 #[.int .i64 P, .slice A n c] := Blk.new _ _ _
  have hsl := ha.lenI
  obtain ⟨HP, hd1, hd2, hnum⟩ := isSp_dim hsp
  rw [hsl] at hd1 hd2
  have hck := checkRegular_any P A none n c 0 0 sq [] (w.alloc (.cells #[.int .i64 P, .slice A n c] 26)) (by omega) (by omega) (ha.below hB0) ⟨[], Rd.nil _ _, rfl, fun k h => absurd h (by simp)⟩ (fun ys h => by cases h)
  rw [codeR_mk hsp hreg (fun ys h => by cases h)] at hck
  have hn : n = 1 ∨ n = 2 ∨ n = 3 ∨ n = 4 ∨ n = 5 ∨ n = 6 := by omega
  obtain ⟨q0, q1⟩ := k0.two
  clear hsl hnum hsp HP hreg hd1 hd2
  go_enter Tryz.func69, Tryz.ntmps69
  go_wp2_with fail
  refine hck.mono ?_
  rintro e w2 ⟨rfl, hb2⟩
  have hB2 := hB0.trans (hb2.mono hB0.size)
  have k2 := k0.below hb2 k0.lt
  clear q0 q1 hck
  obtain ⟨q0, q1⟩ := k2.two
  go_wp2_with fail
  refine (dim_any P A n c w2).mono ?_
  rintro e w3 ⟨rfl, hb3⟩
  have hB3 := hB2.trans (hb3.mono hB2.size)
  clear hb3 hB2 hb2 k2 q0 q1 ha k0 hB0
  rcases hn with rfl | rfl | rfl | rfl | rfl | rfl
  all_goals
    go_wp2
    go_ret2
    exact ⟨rfl, hB3⟩
end Go.Proofs.YtggigolkncckoaaGreat
namespace Go.Proofs.YtggigolkncckoaaGreat
open Go.RowKit
section
variable {P : Program} {ops : Array Oper} {Q : Exit → Act → World → Prop}
/-- Those whose values are good still when operation j is done (C: what each uses up). -/
def availR (R C : List (List Nat)) (m j : Nat) : List Nat := (R.getD j []).filter fun i => (List.range m).all fun k => !((C.getD k []).contains i) || k == j || (R.getD k []).contains j
/-- .. and at the end of the first m. -/
def endR (C : List (List Nat)) (m : Nat) : List Nat := (List.range m).filter fun i => (List.range m).all fun k => !((C.getD k []).contains i)
/-- What operation j may do to the world: add to it, or, where C has something at j, what Rel allows. -/
def StepR (C : List (List Nat)) (Rel : World → World → Prop) (j : Nat) (w w' : World) : Prop := if (C.getD j []).isEmpty then Below w.heap.size w w' else Rel w w'
theorem StepR.plain {C : List (List Nat)} {Rel : World → World → Prop} {j : Nat} {w w' : World} (h : (C.getD j []).isEmpty = true) (hb : Below w.heap.size w w') : StepR C Rel j w w' := by unfold StepR; rw [h]; exact hb
theorem StepR.rel {C : List (List Nat)} {Rel : World → World → Prop} {j : Nat} {w w' : World} (h : (C.getD j []).isEmpty = false) (hb : Rel w w') : StepR C Rel j w w' := by unfold StepR; rw [h]; exact hb
theorem StepR.either {C : List (List Nat)} {Rel : World → World → Prop} {j : Nat} {w w' : World} {q : Prop} (h : StepR C Rel j w w') (h1 : Below w.heap.size w w' → q) (h2 : Rel w w' → q) : q := by
  unfold StepR at h
  split at h
  · exact h1 h
  · exact h2 h
theorem not_containsR {L : List Nat} {i : Nat} : (!(L.contains i)) = true ↔ i ∉ L := by
  rw [Bool.not_eq_true', ← Bool.not_eq_true, List.contains_iff_mem]
theorem availR_spec {R C : List (List Nat)} {m j i : Nat} : i ∈ availR R C m j ↔ i ∈ R.getD j [] ∧ ∀ k, k < m → i ∈ C.getD k [] → k = j ∨ j ∈ R.getD k [] := by
  unfold availR
  rw [List.mem_filter, List.all_eq_true]
  refine and_congr_right fun _ => ⟨fun h k hk hi => ?_, fun h k hk => ?_⟩
  · have h1 := h k (List.mem_range.2 hk)
    rw [Bool.or_eq_true, Bool.or_eq_true, not_containsR, beq_iff_eq, List.contains_iff_mem] at h1
    rcases h1 with (h1 | h1) | h1
    · exact absurd hi h1
    · exact .inl h1
    · exact .inr h1
  · rw [Bool.or_eq_true, Bool.or_eq_true, not_containsR, beq_iff_eq, List.contains_iff_mem]
    by_cases hi : i ∈ C.getD k []
    · rcases h k (List.mem_range.1 hk) hi with h1 | h1
      · exact .inl (.inr h1)
      · exact .inr h1
    · exact .inl (.inl hi)
theorem endR_spec {C : List (List Nat)} {m i : Nat} : i ∈ endR C m ↔ i < m ∧ ∀ k, k < m → i ∉ C.getD k [] := by
  unfold endR
  rw [List.mem_filter, List.all_eq_true, List.mem_range]
  exact and_congr_right fun _ => ⟨fun h k hk => not_containsR.1 (h k (List.mem_range.2 hk)), fun h k hk => not_containsR.2 (h k (List.mem_range.1 hk))⟩
/-- What is to be shown of operation j. -/
def ObR (P : Program) (ops : Array Oper) (S : World → Prop) (R C : List (List Nat)) (Rel : World → World → Prop) (m : Nat) (V : (Nat → Value) → List VP) (x : Nat → Value) (a0 : Act) (j : Nat) : Prop :=
  ∀ w, S w → (∀ i ∈ availR R C m j, ((V x).getD i VAny).p (x i) w) →
    wpOp P ops NoWay j (fun a' w' => ∃ v, (∀ d, dstOf ops j = some d → a'.tmps[d]? = some v) ∧ a'.defers = a0.defers ∧ ((V x).getD j VAny).p v w' ∧ StepR C Rel j w w') (putS ops x a0 j) w
theorem tasks_goR {m : Nat} {Rel : World → World → Prop} {R C : List (List Nat)} {V : (Nat → Value) → List VP} {S : World → Prop} {a0 : Act} (hok : tasksOk ops m a0.tmps.size R = true)
    (hdep : ∀ x x' j, (∀ i ∈ R.getD j [], x i = x' i) → (V x).getD j VAny = (V x').getD j VAny) (hweak : ∀ i, i < m → (C.getD i []).isEmpty = false → ∀ k, k < m → k ≠ i → i ∉ R.getD k [] → k ∉ C.getD i [] → ∀ x v w w', ((V x).getD k VAny).p v w → Rel w w' → ((V x).getD k VAny).p v w') (hSt : ∀ j w w', S w → StepR C Rel j w w' → S w') (hob : ∀ x j, j < m → ObR P ops S R C Rel m V x a0 j)
    (hend : ∀ x w', S w' → (∀ i ∈ endR C m, ((V x).getD i VAny).p (x i) w') → wpAny P .any ops Q (ops.size - m) (listedTo ops.size m) (putS ops x a0 m) w') :
    ∀ (c : Nat) (U : List Nat) (listed : Array Bool) (w : World) (x : Nat → Value), U.length = c → U.Nodup → (∀ i, i ∈ U ↔ i < m ∧ listed.getD i false = false) → listed.size = ops.size →
      (∀ i, m ≤ i → i < ops.size → listed.getD i false = false) → (∀ (j : Nat) (o : Oper), ops[j]? = some o → listed.getD j false = true → ∀ e ∈ o.after, Region.binds .any e = true → listed.getD e.on false = true) →
      S w → (∀ i, i < m → listed.getD i false = true → (∀ j, j < m → i ∈ C.getD j [] → listed.getD j false = false) → ((V x).getD i VAny).p (x i) w) → wpAny P .any ops Q (ops.size - m + c) listed (putD ops (fun i => listed.getD i false) x a0 m) w := by
  obtain ⟨hmn, hspec, htail⟩ := tasks_spec hok
  have hsel : Region.noSelect ops = true := by unfold tasksOk at hok; simp only [Bool.and_eq_true] at hok; exact hok.1.1
  intro c
  induction c with
  | zero =>
    intro U listed w x hU hnd hmem hsz hun hcl hS hV
    obtain rfl : U = [] := List.eq_nil_of_length_eq_zero hU
    have hall : ∀ i, i < m → listed.getD i false = true := fun i hi => by
      cases h : listed.getD i false
      · exact absurd ((hmem i).2 ⟨hi, h⟩) (by simp)
      · rfl
    have hl : listed = listedTo ops.size m := by
      apply Array.ext
      · simp [listedTo, hsz]
      · intro i h1 h2
        have e : listed.getD i false = listed[i] := by simp [Array.getD, h1]
        by_cases hi : i < m
        · have := hall i hi
          rw [e] at this
          simp [listedTo, this, hi]
        · have := hun i (by omega) (by omega)
          rw [e] at this
          simp [listedTo, this, hi]
    rw [Nat.add_zero, putD_congr (ops := ops) _ (fun _ => true) x x a0 m (fun i hi => ⟨hall i hi, fun _ => rfl⟩), hl]
    exact hend x w hS (fun i hi => hV i (endR_spec.1 hi).1 (hall i (endR_spec.1 hi).1) (fun j hj hc => absurd hc ((endR_spec.1 hi).2 j hj)))
  | succ c ih =>
    intro U listed w x hU hnd hmem hsz hun hcl hS hV
    have hne : U ≠ [] := fun e => by rw [e] at hU; simp at hU
    show (_ → _) ∧ _
    refine ⟨fun hr => ?_, fun i hi => ?_⟩
    · exfalso
      obtain ⟨i, hiU, hmin⟩ := min_mem U hne
      obtain ⟨him, hil⟩ := (hmem i).1 hiU
      have hlt : i < ops.size := by omega
      have : i ∈ Region.ready .any ops listed := mem_ready.2 ⟨by simpa [Array.getD, hsz, hlt] using hil, _, Array.getElem?_eq_getElem hlt, fun e he hb => by
        have hlti := (hspec i _ (Array.getElem?_eq_getElem hlt) him).1 e he hb
        cases h : listed.getD e.on false
        · have := hmin e.on ((hmem _).2 ⟨by omega, h⟩); omega
        · rfl⟩
      rw [hr] at this
      cases this
    · obtain ⟨hil, o, ho, hdeps⟩ := mem_ready.1 hi
      have hlt : i < ops.size := (Array.getElem?_eq_some_iff.1 ho).1
      have hil' : listed.getD i false = false := by simpa [Array.getD, hsz, hlt] using hil
      have hreach := listed_reach hok (fun i => listed.getD i false) hcl i o ho hdeps
      have him : i < m := by
        rcases Nat.lt_or_ge i m with h | h
        · exact h
        · exfalso
          obtain ⟨k, hk⟩ := List.exists_mem_of_ne_nil U hne
          obtain ⟨hkm, hkl⟩ := (hmem k).1 hk
          have := hreach k (htail i hlt h k hkm)
          rw [hkl] at this; cases this
      obtain ⟨_, ⟨d, hd, hdsz, hduniq⟩, hlook⟩ := hspec i o ho him
      have hdst : dstOf ops i = some d := by simp [dstOf, ho, hd]
      have hso : ∀ cs b, o.op ≠ .select cs b := fun cs b => Region.noSelect_spec hsel i o cs b ho
      -- the two frames agree on what o looks at
      have hagree : ∀ t ∈ o.looksAt ops, (putD ops (fun i => listed.getD i false) x a0 m).tmps[t]? = (putS ops x a0 i).tmps[t]? := fun t ht => by
        by_cases hex : ∃ k, k < m ∧ dstOf ops k = some t
        · obtain ⟨k, hkm, hkd⟩ := hex
          have hkR := hlook t ht k hkm hkd
          have hki := reach_lt hok i hlt k hkR
          have hkl := hreach k hkR
          have hks : k < ops.size := by omega
          obtain ⟨_, ⟨d', hd', hdsz', hu'⟩, _⟩ := hspec k _ (Array.getElem?_eq_getElem hks) hkm
          have htd : d' = t := by
            have : dstOf ops k = some d' := by simp [dstOf, Array.getElem?_eq_getElem hks, hd']
            rw [hkd] at this; injection this with this; exact this.symm
          rw [putD_at _ _ _ _ k hkd hkl (htd ▸ hdsz') m hkm (fun l hl hlk => htd ▸ hu' l hl hlk)]
          unfold putS
          rw [putD_at _ _ _ _ k hkd rfl (htd ▸ hdsz') i hki (fun l hl hlk => htd ▸ hu' l (by omega) hlk)]
        · rw [putD_other _ _ _ _ m (fun k hk hkd => absurd ⟨k, hk, hkd⟩ hex)]
          unfold putS
          rw [putD_other _ _ _ _ i (fun k hk hkd => absurd ⟨k, by omega, hkd⟩ hex)]
      have hob' := hob x i him w hS (fun k hk => by
        obtain ⟨hkR, hkC⟩ := availR_spec.1 hk
        refine hV k (by have := reach_lt hok i hlt k hkR; omega) (hreach k hkR) (fun j hj hc => ?_)
        rcases hkC j hj hc with rfl | hij
        · exact hil'
        · cases hjl : listed.getD j false
          · rfl
          · have hjs : j < ops.size := by omega
            have := listed_reach hok (fun i => listed.getD i false) hcl j _ (Array.getElem?_eq_getElem hjs) (hcl j _ (Array.getElem?_eq_getElem hjs) hjl) i hij
            rw [hil'] at this; cases this)
      have hsz1 := putD_size (ops := ops) (fun _ => true) x a0 i
      -- what comes behind
      have next : ∀ v w', ((V x).getD i VAny).p v w' → StepR C Rel i w w' → wpAny P .any ops Q (ops.size - m + c) (listed.setIfInBounds i true) ((putD ops (fun i => listed.getD i false) x a0 m).put (some d) v) w' := fun v w' hv hb => by
        have hput := putD_put (ops := ops) (fun k => listed.getD k false) (fun k => (listed.setIfInBounds i true).getD k false) x (fun k => if k = i then v else x k) a0 i hil'
          (by simp [hsz, hlt]) (fun k hk => ⟨by rw [getD_set_ne _ (Ne.symm hk)], by simp [hk]⟩) m him
          (fun d' k hk hki hd' => by rw [hdst] at hd'; injection hd' with hd'; exact hd' ▸ hduniq k hk hki)
        simp only [if_true] at hput
        rw [← hdst, hput]
        refine ih (U.erase i) _ _ _ ?_ (hnd.erase _) (fun k => ?_) (by simpa using hsz) (fun k h1 h2 => ?_) (fun j oj hoj hj e he hb' => ?_) (hSt i _ _ hS hb) (fun k hk hkl hcons => ?_)
        · rw [List.length_erase_of_mem ((hmem i).2 ⟨him, hil'⟩), hU]; rfl
        · rw [hnd.mem_erase_iff, hmem]
          by_cases hk : k = i
          · subst hk; simp [hsz, hlt]
          · rw [getD_set_ne _ (Ne.symm hk)]; simp [hk]
        · rw [getD_set_ne _ (by omega)]; exact hun k h1 h2
        · by_cases hji : j = i
          · subst hji
            rw [ho] at hoj; injection hoj with hoj; subst hoj
            exact getD_set_true (hdeps e he hb')
          · rw [getD_set_ne _ (Ne.symm hji)] at hj
            exact getD_set_true (hcl j oj hoj hj e he hb')
        · by_cases hki : k = i
          · subst hki
            rw [hdep _ x k (fun l hl => by have := reach_lt hok k hlt l hl; simp only [show l ≠ k by omega, if_false])]
            simpa using hv
          · rw [getD_set_ne _ (Ne.symm hki)] at hkl
            have hks : k < ops.size := by omega
            have hdk : (V fun l => if l = i then v else x l).getD k VAny = (V x).getD k VAny := hdep _ x k (fun l hl => by
              have hll := listed_reach hok (fun i => listed.getD i false) hcl k _ (Array.getElem?_eq_getElem hks) (hcl k _ (Array.getElem?_eq_getElem hks) hkl) l hl
              have hne : l ≠ i := fun e => by rw [e] at hll; rw [hil'] at hll; cases hll
              simp only [hne, if_false])
            simp only [hki, if_false]
            rw [hdk]
            have hb0 : ∀ j, j < m → k ∈ C.getD j [] → listed.getD j false = false := fun j hj hc => by
              have h1 := hcons j hj hc
              by_cases hji : j = i
              · rw [hji]; exact hil'
              · rwa [getD_set_ne _ (Ne.symm hji)] at h1
            have hkC : k ∉ C.getD i [] := fun hc => by
              have h1 := hcons i him hc
              simp [hsz, hlt] at h1
            have hiR : i ∉ R.getD k [] := fun hik => by
              have := listed_reach hok (fun i => listed.getD i false) hcl k _ (Array.getElem?_eq_getElem hks) (hcl k _ (Array.getElem?_eq_getElem hks) hkl) i hik
              rw [hil'] at this; cases this
            cases he : (C.getD i []).isEmpty
            · replace hb : Rel w w' := by unfold StepR at hb; rw [he] at hb; exact hb
              exact hweak i him he k hk hki hiR hkC x _ _ _ (hV k hk hkl hb0) hb
            · replace hb : Below w.heap.size w w' := by unfold StepR at hb; rw [he] at hb; exact hb
              exact ((V x).getD k VAny).st _ _ _ (hV k hk hkl hb0) hb
      unfold wpOp at hob' ⊢
      simp only [ho] at hob' ⊢
      rw [wanted_same hagree]
      split
      · rename_i hw
        rw [if_pos hw] at hob'
        rcases hob' with h | ⟨_, h⟩
        case inr => exact absurd h NoWay.lets
        refine .inl (Oper.wp_mono ?_ (wp_move (Q := Q) (d := d) (R := fun v w' => ((V x).getD i VAny).p v w' ∧ StepR C Rel i w w') (exec_same hso hagree) hd (by unfold putS; rw [hsz1.1]; exact hdsz)
          (Oper.wp_mono (fun a' w' ⟨v, h1, h2, h3, h4⟩ => ⟨v, h1 d hdst, by unfold putS; rw [hsz1.2]; exact h2, h3, h4⟩) h)))
        rintro a' w' ⟨v, rfl, hv, hb⟩
        exact next v w' hv hb
      · rename_i hw
        rw [if_neg hw] at hob'
        obtain ⟨v, h1, _, h3, h4⟩ := hob'
        have hvu : v = undef := by
          have := h1 d hdst
          rw [hd] at this
          simp [Act.put, putS, hsz1.1, hdsz] at this
          exact this.symm
        rw [hd]
        exact next undef w (hvu ▸ h3) h4
/-- **A region that draws its order**: each of its first m operations is shown once; what is left behind them goes on. -/
theorem wp_tasksR {id m : Nat} {Rel : World → World → Prop} (R C : List (List Nat)) (V : (Nat → Value) → List VP) (S : World → Prop) {a0 : Act} {w : World} (hm : P.follows .mixedOrders = true) (hok : tasksOk ops m a0.tmps.size R = true)
    (hdep : ∀ x x' j, (∀ i ∈ R.getD j [], x i = x' i) → (V x).getD j VAny = (V x').getD j VAny) (hweak : ∀ i, i < m → (C.getD i []).isEmpty = false → ∀ k, k < m → k ≠ i → i ∉ R.getD k [] → k ∉ C.getD i [] → ∀ x v w w', ((V x).getD k VAny).p v w → Rel w w' → ((V x).getD k VAny).p v w') (hS0 : S w.drew) (hSt : ∀ j w w', S w → StepR C Rel j w w' → S w') (hob : ∀ x j, j < m → ObR P ops S R C Rel m V x a0 j)
    (hend : ∀ x w', S w' → (∀ i ∈ endR C m, ((V x).getD i VAny).p (x i) w') → wpAny P .any ops Q (ops.size - m) (listedTo ops.size m) (putS ops x a0 m) w') : (Code.region id ops true).wp P Q a0 w := by
  have hmn := (tasks_spec hok).1
  have hf : ∀ i, (Array.replicate ops.size false).getD i false = false := fun i => by simp [Array.getD]
  have h := tasks_goR (Q := Q) hok hdep hweak hSt hob hend m (List.range m) (Array.replicate ops.size false) w.drew (fun _ => undef) (by simp) List.nodup_range (fun i => by rw [hf]; simp) (by simp) (fun i _ _ => hf i) (fun j o _ hj => by rw [hf] at hj; cases hj) hS0
    (fun i _ hi => by rw [hf] at hi; cases hi)
  refine wp_region_any hm ?_
  rw [show ops.size - m + m = ops.size by omega, putD_congr (ops := ops) _ (fun _ => false) _ (fun _ => undef) a0 m (fun i _ => ⟨hf i, fun _ => rfl⟩)] at h
  have e : ∀ n, putD ops (fun _ => false) (fun _ => undef) a0 n = a0 := fun n => by
    induction n with
    | zero => rfl
    | succ n ih => unfold putD; simpa using ih
  rw [e] at h
  exact h
/-- What is to be shown, operation by operation, in the text's order; the frame goes along. -/
def ObsR (P : Program) (ops : Array Oper) (Q : Exit → Act → World → Prop) (S : World → Prop) (R C : List (List Nat)) (Rel : World → World → Prop) (m : Nat) (V : (Nat → Value) → List VP) (x : Nat → Value) : Nat → Nat → Act → Prop
  | 0, j, a => ∀ w, S w → (∀ i ∈ endR C m, ((V x).getD i VAny).p (x i) w) → wpAny P .any ops Q (ops.size - j) (listedTo ops.size j) a w
  | r + 1, j, a => (∀ w, S w → (∀ i ∈ availR R C m j, ((V x).getD i VAny).p (x i) w) →
      wpOp P ops NoWay j (fun a' w' => ∃ v, (∀ d, dstOf ops j = some d → a'.tmps[d]? = some v) ∧ a'.defers = a.defers ∧ ((V x).getD j VAny).p v w' ∧ StepR C Rel j w w') a w) ∧
    ObsR P ops Q S R C Rel m V x r (j + 1) (a.put (dstOf ops j) (x j))
theorem obs_allR {S : World → Prop} {R C : List (List Nat)} {Rel : World → World → Prop} {m : Nat} {V : (Nat → Value) → List VP} {x : Nat → Value} {a0 : Act} : ∀ (r j : Nat), ObsR P ops Q S R C Rel m V x r j (putS ops x a0 j) →
    (∀ k, j ≤ k → k < j + r → ObR P ops S R C Rel m V x a0 k) ∧ ∀ w, S w → (∀ i ∈ endR C m, ((V x).getD i VAny).p (x i) w) → wpAny P .any ops Q (ops.size - (j + r)) (listedTo ops.size (j + r)) (putS ops x a0 (j + r)) w := by
  intro r
  induction r with
  | zero => intro j h; exact ⟨fun k h1 h2 => by omega, h⟩
  | succ r ih =>
    intro j h
    obtain ⟨h1, h2⟩ := h
    have h2' : ObsR P ops Q S R C Rel m V x r (j + 1) (putS ops x a0 (j + 1)) := h2
    obtain ⟨h3, h4⟩ := ih (j + 1) h2'
    refine ⟨fun k hk1 hk2 => ?_, by rw [show j + (r + 1) = j + 1 + r by omega]; exact h4⟩
    by_cases hk : k = j
    · subst hk
      intro w hS hV
      have h := h1 w hS hV
      rw [show (putS ops x a0 k).defers = a0.defers from (putD_size _ _ _ _).2] at h
      exact h
    · exact h3 k (by omega) (by omega)
theorem wp_obsR {id : Nat} (m : Nat) (Rel : World → World → Prop) (R C : List (List Nat)) (V : (Nat → Value) → List VP) (S : World → Prop) {a0 : Act} {w : World} (hm : P.follows .mixedOrders = true) (hok : tasksOk ops m a0.tmps.size R = true)
    (hdep : ∀ x x' j, (∀ i ∈ R.getD j [], x i = x' i) → (V x).getD j VAny = (V x').getD j VAny) (hweak : ∀ i, i < m → (C.getD i []).isEmpty = false → ∀ k, k < m → k ≠ i → i ∉ R.getD k [] → k ∉ C.getD i [] → ∀ x v w w', ((V x).getD k VAny).p v w → Rel w w' → ((V x).getD k VAny).p v w') (hSt : ∀ j w w', S w → StepR C Rel j w w' → S w') (hS0 : S w.drew) (h : ∀ x, ObsR P ops Q S R C Rel m V x m 0 a0) : (Code.region id ops true).wp P Q a0 w :=
  wp_tasksR (m := m) (Rel := Rel) R C V S hm hok hdep hweak hS0 hSt (fun x j hj => (obs_allR m 0 (h x)).1 j (by omega) (by omega)) (fun x w' hS hV => by
    have := (obs_allR m 0 (h x)).2 w' hS (hV)
    rwa [Nat.zero_add] at this)
theorem obs_stepR {S : World → Prop} {R C : List (List Nat)} {Rel : World → World → Prop} {m : Nat} {V : (Nat → Value) → List VP} {x : Nat → Value} {r j : Nat} {a : Act} {o : Oper} {d : Tmp} (ho : ops[j]? = some o) (hd : o.dst = some d)
    (h : ∀ w, S w → (∀ i ∈ availR R C m j, ((V x).getD i VAny).p (x i) w) → ∀ K : Act → World → Prop, Shut (∀ a' w' v, a'.tmps[d]? = some v → a'.defers = a.defers → ((V x).getD j VAny).p v w' → StepR C Rel j w w' → K a' w') →
      if Region.wanted o (yielded ops a.tmps) = true then Oper.wp P o a w K NoWay else K (a.put o.dst undef) w)
    (hr : ObsR P ops Q S R C Rel m V x r (j + 1) { a with tmps := a.tmps.setIfInBounds d (x j) }) : ObsR P ops Q S R C Rel m V x (r + 1) j a := by
  have hdst : dstOf ops j = some d := by simp [dstOf, ho, hd]
  refine ⟨fun w hS hV => wpOp_step ho (fun K hK => ?_), by rw [hdst]; exact hr⟩
  exact h w hS hV K (fun a' w' v h1 h2 h3 h4 => hK a' w' ⟨v, fun d' hd' => by rw [hdst] at hd'; injection hd' with hd'; exact hd' ▸ h1, h2, h3, h4⟩)
/-- Those that bear an append in place: their values are plain. -/
theorem weak_ofR {m : Nat} {Rel : World → World → Prop} {R C : List (List Nat)} {V : (Nat → Value) → List VP} (Wk : List Nat)
    (hchk : ((List.range m).all fun i => (C.getD i []).isEmpty || (List.range m).all fun k => k == i || (R.getD k []).contains i || (C.getD i []).contains k || Wk.contains k) = true)
    (hW : ∀ k ∈ Wk, ∀ x v w w', ((V x).getD k VAny).p v w → Rel w w' → ((V x).getD k VAny).p v w') :
    ∀ i, i < m → (C.getD i []).isEmpty = false → ∀ k, k < m → k ≠ i → i ∉ R.getD k [] → k ∉ C.getD i [] → ∀ x v w w', ((V x).getD k VAny).p v w → Rel w w' → ((V x).getD k VAny).p v w' := by
  intro i hi he k hk hne hR hC x v w w' hp hrel
  have h1 := List.all_eq_true.1 hchk i (List.mem_range.2 hi)
  rw [he, Bool.false_or] at h1
  have h2 := List.all_eq_true.1 h1 k (List.mem_range.2 hk)
  rw [Bool.or_eq_true, Bool.or_eq_true, Bool.or_eq_true, beq_iff_eq, List.contains_iff_mem, List.contains_iff_mem, List.contains_iff_mem] at h2
  rcases h2 with ((h2 | h2) | h2) | h2
  · exact absurd h2 hne
  · exact absurd h2 hR
  · exact absurd h2 hC
  · exact hW k h2 x v w w' hp hrel
end
end Go.Proofs.YtggigolkncckoaaGreat
namespace Go.Proofs.YtggigolkncckoaaGreat
open Go.RowKit
theorem and_small (x : Int) : 0 ≤ bits BinOp.and IntKind.u64 x 16777215 ∧ bits BinOp.and IntKind.u64 x 16777215 ≤ 16777215 := by
  unfold bits
  simp only
  have h : (BitVec.ofInt IntKind.u64.bits x &&& BitVec.ofInt IntKind.u64.bits 16777215).toNat ≤ 16777215 := by
    rw [BitVec.toNat_and]
    exact Nat.le_trans Nat.and_le_right (by decide)
  obtain ⟨r, hr⟩ : ∃ r, r = (BitVec.ofInt IntKind.u64.bits x &&& BitVec.ofInt IntKind.u64.bits 16777215).toNat := ⟨_, rfl⟩
  rw [← hr] at h ⊢
  have e : IntKind.u64.wrap ((r : Nat) : Int) = (r : Int) := by
    have e1 : IntKind.u64.wrap ((r : Nat) : Int) = ((r : Nat) : Int) % 18446744073709551616 := rfl
    rw [e1]; omega
  rw [e]
  omega
/-- A source: a code, a place in it, a number. -/
def Src (w : World) (g : Nat) (T : TypeId) : Prop := ∃ (B : Option Addr) (nb cb : Nat) (bs : List Int) (pl : Nat) (h : Int), Blk w g T #[.slice B nb cb, .int .i64 pl, .int .u64 h] ∧ Rd w B nb (bs.map (Value.int .u8)) ∧ (∀ b ∈ bs, 0 ≤ b ∧ b < 256) ∧ pl ≤ nb ∧ nb ≤ 4096 ∧ ∀ a, B = some a → a.block < g
/-- What drawing leaves as it was: all but the source's own block. -/
structure Dr (g : Nat) (T : TypeId) (w w' : World) : Prop where
  s : Src w g T
  s' : Src w' g T
  b : Below g w w'
  k : ∀ k, k < w.heap.size → k ≠ g → w'.heap[k]? = w.heap[k]?
theorem Blk.three {w : World} {g : Nat} {t : TypeId} {a b c : Value} (h : Blk w g t #[a, b, c]) : w.cell? ⟨g, 0, none⟩ = some a ∧ w.cell? ⟨g, 1, none⟩ = some b ∧ w.cell? ⟨g, 2, none⟩ = some c := ⟨h.cell 0, h.cell 1, h.cell 2⟩
theorem Src.lt {w : World} {g : Nat} {T : TypeId} (h : Src w g T) : g < w.heap.size := by obtain ⟨B, nb, cb, bs, pl, x, k, _⟩ := h; exact k.lt
theorem Src.keep {w w' : World} {g : Nat} {T : TypeId} (h : Src w g T) (hk : w'.heap[g]? = w.heap[g]?) (hb : Below g w w') : Src w' g T := by
  obtain ⟨B, nb, cb, bs, pl, x, k, r, h1, h2, h3, h4⟩ := h
  refine ⟨B, nb, cb, bs, pl, x, hk.trans k, ⟨r.1, fun hn0 => ?_⟩, h1, h2, h3, h4⟩
  obtain ⟨gb, ob, e, hc⟩ := r.2 hn0
  exact ⟨gb, ob, e, fun j u hu => (hb.cell (show gb < g from h4 _ e)).trans (hc j u hu)⟩
theorem Src.below {w w' : World} {g : Nat} {T : TypeId} (h : Src w g T) (hb : Below w.heap.size w w') : Src w' g T := by
  obtain ⟨B, nb, cb, bs, pl, x, k, r, rest⟩ := h
  exact ⟨B, nb, cb, bs, pl, x, k.below hb k.lt, r.below hb, rest⟩
theorem Dr.refl {w : World} {g : Nat} {T : TypeId} (h : Src w g T) : Dr g T w w := ⟨h, h, Below.refl _ _, fun _ _ _ => rfl⟩
theorem Dr.of_below {w w' : World} {g : Nat} {T : TypeId} (h : Src w g T) (hb : Below w.heap.size w w') : Dr g T w w' := ⟨h, h.below hb, hb.mono (Nat.le_of_lt h.lt), fun k hk _ => hb.block k hk⟩
theorem Dr.trans {w w1 w2 : World} {g : Nat} {T : TypeId} (h : Dr g T w w1) (h' : Dr g T w1 w2) : Dr g T w w2 :=
  ⟨h.s, h'.s', h.b.trans h'.b, fun k hk hne => (h'.k k (Nat.lt_of_lt_of_le hk h.b.size) hne).trans (h.k k hk hne)⟩
theorem Dr.size {w w' : World} {g : Nat} {T : TypeId} (h : Dr g T w w') : w.heap.size ≤ w'.heap.size := h.b.size
theorem Dr.down {w0 w w' : World} {g : Nat} {T : TypeId} (h : Dr g T w w') (hb : Below w0.heap.size w0 w) (hg : w0.heap.size ≤ g) : Below w0.heap.size w0 w' := hb.trans (h.b.mono hg)
theorem Blk.dr {w w' : World} {g g' : Nat} {T t : TypeId} {cs : Array Value} (h : Blk w g' t cs) (d : Dr g T w w') (hne : t ≠ T) : Blk w' g' t cs := by
  refine (d.k g' h.lt fun e => ?_).trans h
  subst e
  obtain ⟨B, nb, cb, bs, pl, x, k, _⟩ := d.s
  unfold Blk at h k
  rw [h] at k
  injection k with k
  injection k with _ e
  exact hne e
theorem Own.dr {w w' : World} {g : Nat} {T E : TypeId} {B : Nat} {A : Option Addr} {n c : Nat} {us : List Value} (h : Own w B E A n c us) (d : Dr g T w w') (hne : E ≠ T) : Own w' B E A n c us := by
  obtain ⟨B', nb, cb, bs, pl, x, k, _⟩ := d.s
  have hn := h.ne_blk k hne
  refine ⟨h.1, ?_⟩
  rcases h.2 with hz | ⟨g', cap, cur, he, hB, hg, r⟩
  · exact .inl hz
  · refine .inr ⟨g', cap, cur, he, hB, (d.k g' (Array.getElem?_eq_some_iff.1 hg).1 fun e => hn ?_).trans hg, r⟩
    rw [he, ← e]; rfl
theorem Dr.set {w : World} {g : Nat} {T : TypeId} {B : Option Addr} {nb cb : Nat} {bs : List Int} {pl pl' : Nat} {h h' : Int} (k : Blk w g T #[.slice B nb cb, .int .i64 pl, .int .u64 h]) (r : Rd w B nb (bs.map (Value.int .u8))) (hbs : ∀ b ∈ bs, 0 ≤ b ∧ b < 256) (hpl : pl ≤ nb) (hnb : nb ≤ 4096) (hbg : ∀ a, B = some a → a.block < g)
    (i : Nat) (u : Value) (e : (#[.slice B nb cb, .int .i64 pl, .int .u64 h] : Array Value).setIfInBounds i u = #[.slice B nb cb, .int .i64 pl', .int .u64 h']) (hpl' : pl' ≤ nb) :
    Dr g T w (w.setCell ⟨g, i, none⟩ u) ∧ Blk (w.setCell ⟨g, i, none⟩ u) g T #[.slice B nb cb, .int .i64 pl', .int .u64 h'] ∧ Rd (w.setCell ⟨g, i, none⟩ u) B nb (bs.map (Value.int .u8)) := by
  have k1 := k.set_ i u
  rw [e] at k1
  have hfar : ∀ b, b ≠ g → (w.setCell ⟨g, i, none⟩ u).heap[b]? = w.heap[b]? := fun b hb => Below.heap_setCell w ⟨g, i, none⟩ _ b hb
  have hr : Rd (w.setCell ⟨g, i, none⟩ u) B nb (bs.map (Value.int .u8)) := ⟨r.1, fun hn0 => by
    obtain ⟨gb, ob, e, hc⟩ := r.2 hn0
    refine ⟨gb, ob, e, fun j u hu => ?_⟩
    have hcj := hc j u hu
    have hlt := hbg _ e
    exact (World.cell?_of_block (hfar gb (fun e => by simp at hlt; omega))).trans hcj⟩
  exact ⟨⟨⟨B, nb, cb, bs, pl, h, k, r, hbs, hpl, hnb, hbg⟩, ⟨B, nb, cb, bs, pl', h', k1, hr, hbs, hpl', hnb, hbg⟩, (Below.refl _ _).setCell (p := ⟨g, i, none⟩) (Nat.le_refl _) _, fun b _ hb => hfar b hb⟩, k1, hr⟩
theorem Dr.alloc {w w' : World} {g : Nat} {T : TypeId} (h : Dr g T w w') (o : Obj) : Dr g T w (w'.alloc o) := h.trans (Dr.of_below h.s' ((Below.refl _ _).alloc (Nat.le_refl _) o))
theorem Dr.then {w w1 w2 : World} {g : Nat} {T : TypeId} (h : Dr g T w w1) (hb : Below w1.heap.size w1 w2) : Dr g T w w2 := h.trans (Dr.of_below h.s' hb)
/-- A row made since then grows. -/
theorem Dr.grown {w wr w' : World} {g : Nat} {T E : TypeId} {A : Option Addr} {n c : Nat} {us : List Value} (d : Dr g T w wr) (o : Own wr w.heap.size E A n c us) (hg : wr.grownBy w' (Value.slice A n c).ownBlock) : Dr g T w w' := by
  have hlt := d.s.lt
  have hrow : ∀ k, (Value.slice A n c).ownBlock = some k → w.heap.size ≤ k := fun k hk => (World.ownsRow.lt o k hk).1
  have hb : Below g wr w' := (Below.refl g wr).grown hg (Nat.le_of_lt (Nat.lt_of_lt_of_le hlt d.size)) fun k hk => Nat.le_trans (Nat.le_of_lt hlt) (hrow k hk)
  exact ⟨d.s, d.s'.keep (hg.block g (Nat.lt_of_lt_of_le hlt d.size) fun e => by have := hrow g e.symm; omega) hb, d.b.trans hb,
    fun k hk hne => (hg.block k (Nat.lt_of_lt_of_le hk d.size) fun e => by have := hrow k e.symm; omega).trans (d.k k hk hne)⟩
set_option maxHeartbeats 1600000 in
set_option maxRecDepth 8000 in
theorem next_any (g : Nat) (n : Int) (w : World) (hs : Src w g 143) (hn : n ≤ 4611686018427387904) :
    Calls Tryz.prog 147 #[.pointer (some ⟨g, 0, none⟩), .int .i64 n] w fun e w' => ∃ r : Int, e = .returned (.int .i64 r) ∧ 0 ≤ r ∧ (1 ≤ n → r < n) ∧ Dr g 143 w w' := by
  by_cases h1 : n < 1
  · have d1 : decide (n < 1) = true := by simpa using h1
    go_enter Tryz.func147, Tryz.ntmps147
    go_wp2
    go_ret
    exact ⟨0, rfl, by omega, fun h => by omega, Dr.refl hs⟩
  · have d1 : decide (n < 1) = false := by simpa using h1
    obtain ⟨B, nb, cb, bs, pl, h, k, r, hbs, hpl, hnb, hbg⟩ := id hs
    have q0 : w.cell? ⟨g, 0, none⟩ = some (.slice B nb cb) := k.cell 0
    have q1 : w.cell? ⟨g, 1, none⟩ = some (.int .i64 pl) := k.cell 1
    have q2 : w.cell? ⟨g, 2, none⟩ = some (.int .u64 h) := k.cell 2
    have f2 := k.frozen 2
    go_enter Tryz.func147, Tryz.ntmps147
    go_wp2
    obtain ⟨H, hH⟩ : ∃ H, H = IntKind.u64.wrap (IntKind.u64.wrap (h * 6364136223846793005) + 1442695040888963407) := ⟨_, rfl⟩
    rw [← hH]
    have hsm := and_small (H / 8589934592)
    obtain ⟨X, hX⟩ : ∃ X, X = bits BinOp.and IntKind.u64 (H / 8589934592) 16777215 := ⟨_, rfl⟩
    rw [← hX] at hsm ⊢
    have W1 : wrap64 X = X := by unfold wrap64; omega
    rw [W1]
    obtain ⟨x1, x2⟩ := hsm
    obtain ⟨hd1, k1, r1⟩ := Dr.set k r hbs hpl hnb hbg 2 (.int .u64 H) (pl' := pl) (h' := H) (by simp) hpl
    clear q0 q1 q2 f2 hX
    obtain ⟨w1, hw1⟩ : ∃ W, W = w.setCell ⟨g, 2, none⟩ (.int .u64 H) := ⟨_, rfl⟩
    rw [← hw1] at k1 r1 hd1 ⊢
    have hN0 : (n == 0) = false := by simp; omega
    have hN1 : (n == -1) = false := by simp; omega
    have hN2 : ¬ n = 0 := by omega
    have HD := Lib.hid hd1
    have HBS := Lib.hid hbs
    have HBG := Lib.hid hbg
    have HR1 := Lib.hid r1
    clear hw1 hH hd1 r k hbg
    by_cases hpn : pl < nb
    · have dl : decide ((pl : Int) < (nb : Int)) = true := by simp; omega
      obtain ⟨gb, ob, rfl, hc⟩ := r1.2 (by omega)
      have hbl : pl < bs.length := by have := r1.1; rw [List.length_map] at this; omega
      have hcb := hc pl (.int .u8 bs[pl]) (by simp [hbl])
      obtain ⟨b1, b2⟩ := hbs _ (List.getElem_mem hbl)
      obtain ⟨bb, hbb⟩ : ∃ x, x = bs[pl] := ⟨_, rfl⟩
      rw [← hbb] at hcb b1 b2
      have i1 : (0 : Int) ≤ (pl : Int) := by omega
      have i2 : (pl : Int) < (nb : Int) := by omega
      have W2 : IntKind.i64.wrap bb = bb := by rw [IntWalk.i64_left]; unfold wrap64; omega
      have W4 : IntKind.i64.wrap (X + bb) = X + bb := by rw [IntWalk.i64_left]; unfold wrap64; omega
      have W5 : wrap64 ((pl : Int) + 1) = ((pl + 1 : Nat) : Int) := by unfold wrap64; omega
      have T1 := Int.tmod_eq_emod_of_nonneg (b := n) (show 0 ≤ X + bb by omega)
      clear hc hbs hbb r1
      go_wp2
      refine wp_obs 10 [[], [0], [0, 1], [0, 1, 2], [], [4], [4, 5], [4, 5, 6], [4, 5, 6, 7], [0, 1, 2, 3, 4, 5, 6, 7, 8]] [VIs (.pointer (some ⟨g, 0, none⟩)), VIs (.pointer (some ⟨g, 0, none⟩)), VIs (.pointer (some ⟨g, 1, none⟩)), VIs (.int .i64 (pl)), VIs (.pointer (some ⟨g, 0, none⟩)), VIs (.pointer (some ⟨g, 0, none⟩)), VIs (.pointer (some ⟨g, 0, none⟩)), VIs (.slice (some ⟨gb, ob, none⟩) nb cb), VIs (.int .i64 (nb)), VIs (.bool true)] (fun w' => Blk w' g 143 #[.slice (some ⟨gb, ob, none⟩) nb cb, .int .i64 pl, .int .u64 H] ∧ w'.cell? ⟨gb, ob + pl, none⟩ = some (.int .u8 bb) ∧ Below w1.heap.size w1 w') (by kernel_rfl) (by kernel_rfl) (fun _ _ h hb => ⟨h.1.below hb h.1.lt, (hb.cell (World.block_lt_of_cell? _ _ h.2.1)).trans h.2.1, h.2.2.trans (hb.mono h.2.2.size)⟩) (⟨k1.drew, hcb, (Below.refl _ _).drew⟩) (fun x => ?_)
      refine obs_step (Eq.trans (by simp only [List.getElem?_toArray, List.getElem?_cons_zero]; exact rfl) rfl) rfl (fun w' hS hV K hK => ?_) ?_
      · obtain ⟨q0, q1, q2⟩ := hS.1.three; have qb := hS.2.1
        go_simp
        exact hK.out _ _ _ rfl rfl rfl (Below.refl _ _)
      simp only [List.setIfInBounds_toArray, List.set_cons_zero, List.set_cons_succ]
      refine obs_step (Eq.trans (by simp only [List.getElem?_toArray, List.getElem?_cons_succ, List.getElem?_cons_zero]; exact rfl) rfl) rfl (fun w' hS hV K hK => ?_) ?_
      · have e0 : x 0 = (.pointer (some ⟨g, 0, none⟩)) := hV 0 (by decide)
        obtain ⟨q0, q1, q2⟩ := hS.1.three; have qb := hS.2.1
        go_simp
        exact hK.out _ _ _ rfl rfl rfl (Below.refl _ _)
      simp only [List.setIfInBounds_toArray, List.set_cons_zero, List.set_cons_succ]
      refine obs_step (Eq.trans (by simp only [List.getElem?_toArray, List.getElem?_cons_succ, List.getElem?_cons_zero]; exact rfl) rfl) rfl (fun w' hS hV K hK => ?_) ?_
      · have e0 : x 0 = (.pointer (some ⟨g, 0, none⟩)) := hV 0 (by decide)
        have e1 : x 1 = (.pointer (some ⟨g, 0, none⟩)) := hV 1 (by decide)
        obtain ⟨q0, q1, q2⟩ := hS.1.three; have qb := hS.2.1
        go_simp
        exact hK.out _ _ _ rfl rfl rfl (Below.refl _ _)
      simp only [List.setIfInBounds_toArray, List.set_cons_zero, List.set_cons_succ]
      refine obs_step (Eq.trans (by simp only [List.getElem?_toArray, List.getElem?_cons_succ, List.getElem?_cons_zero]; exact rfl) rfl) rfl (fun w' hS hV K hK => ?_) ?_
      · have e0 : x 0 = (.pointer (some ⟨g, 0, none⟩)) := hV 0 (by decide)
        have e1 : x 1 = (.pointer (some ⟨g, 0, none⟩)) := hV 1 (by decide)
        have e2 : x 2 = (.pointer (some ⟨g, 1, none⟩)) := hV 2 (by decide)
        obtain ⟨q0, q1, q2⟩ := hS.1.three; have qb := hS.2.1
        go_simp
        exact hK.out _ _ _ rfl rfl rfl (Below.refl _ _)
      simp only [List.setIfInBounds_toArray, List.set_cons_zero, List.set_cons_succ]
      refine obs_step (Eq.trans (by simp only [List.getElem?_toArray, List.getElem?_cons_succ, List.getElem?_cons_zero]; exact rfl) rfl) rfl (fun w' hS hV K hK => ?_) ?_
      · obtain ⟨q0, q1, q2⟩ := hS.1.three; have qb := hS.2.1
        go_simp
        exact hK.out _ _ _ rfl rfl rfl (Below.refl _ _)
      simp only [List.setIfInBounds_toArray, List.set_cons_zero, List.set_cons_succ]
      refine obs_step (Eq.trans (by simp only [List.getElem?_toArray, List.getElem?_cons_succ, List.getElem?_cons_zero]; exact rfl) rfl) rfl (fun w' hS hV K hK => ?_) ?_
      · have e4 : x 4 = (.pointer (some ⟨g, 0, none⟩)) := hV 4 (by decide)
        obtain ⟨q0, q1, q2⟩ := hS.1.three; have qb := hS.2.1
        go_simp
        exact hK.out _ _ _ rfl rfl rfl (Below.refl _ _)
      simp only [List.setIfInBounds_toArray, List.set_cons_zero, List.set_cons_succ]
      refine obs_step (Eq.trans (by simp only [List.getElem?_toArray, List.getElem?_cons_succ, List.getElem?_cons_zero]; exact rfl) rfl) rfl (fun w' hS hV K hK => ?_) ?_
      · have e4 : x 4 = (.pointer (some ⟨g, 0, none⟩)) := hV 4 (by decide)
        have e5 : x 5 = (.pointer (some ⟨g, 0, none⟩)) := hV 5 (by decide)
        obtain ⟨q0, q1, q2⟩ := hS.1.three; have qb := hS.2.1
        go_simp
        exact hK.out _ _ _ rfl rfl rfl (Below.refl _ _)
      simp only [List.setIfInBounds_toArray, List.set_cons_zero, List.set_cons_succ]
      refine obs_step (Eq.trans (by simp only [List.getElem?_toArray, List.getElem?_cons_succ, List.getElem?_cons_zero]; exact rfl) rfl) rfl (fun w' hS hV K hK => ?_) ?_
      · have e4 : x 4 = (.pointer (some ⟨g, 0, none⟩)) := hV 4 (by decide)
        have e5 : x 5 = (.pointer (some ⟨g, 0, none⟩)) := hV 5 (by decide)
        have e6 : x 6 = (.pointer (some ⟨g, 0, none⟩)) := hV 6 (by decide)
        obtain ⟨q0, q1, q2⟩ := hS.1.three; have qb := hS.2.1
        go_simp
        exact hK.out _ _ _ rfl rfl rfl (Below.refl _ _)
      simp only [List.setIfInBounds_toArray, List.set_cons_zero, List.set_cons_succ]
      refine obs_step (Eq.trans (by simp only [List.getElem?_toArray, List.getElem?_cons_succ, List.getElem?_cons_zero]; exact rfl) rfl) rfl (fun w' hS hV K hK => ?_) ?_
      · have e4 : x 4 = (.pointer (some ⟨g, 0, none⟩)) := hV 4 (by decide)
        have e5 : x 5 = (.pointer (some ⟨g, 0, none⟩)) := hV 5 (by decide)
        have e6 : x 6 = (.pointer (some ⟨g, 0, none⟩)) := hV 6 (by decide)
        have e7 : x 7 = (.slice (some ⟨gb, ob, none⟩) nb cb) := hV 7 (by decide)
        obtain ⟨q0, q1, q2⟩ := hS.1.three; have qb := hS.2.1
        go_simp
        exact hK.out _ _ _ rfl rfl rfl (Below.refl _ _)
      simp only [List.setIfInBounds_toArray, List.set_cons_zero, List.set_cons_succ]
      refine obs_step (Eq.trans (by simp only [List.getElem?_toArray, List.getElem?_cons_succ, List.getElem?_cons_zero]; exact rfl) rfl) rfl (fun w' hS hV K hK => ?_) ?_
      · have e0 : x 0 = (.pointer (some ⟨g, 0, none⟩)) := hV 0 (by decide)
        have e1 : x 1 = (.pointer (some ⟨g, 0, none⟩)) := hV 1 (by decide)
        have e2 : x 2 = (.pointer (some ⟨g, 1, none⟩)) := hV 2 (by decide)
        have e3 : x 3 = (.int .i64 (pl)) := hV 3 (by decide)
        have e4 : x 4 = (.pointer (some ⟨g, 0, none⟩)) := hV 4 (by decide)
        have e5 : x 5 = (.pointer (some ⟨g, 0, none⟩)) := hV 5 (by decide)
        have e6 : x 6 = (.pointer (some ⟨g, 0, none⟩)) := hV 6 (by decide)
        have e7 : x 7 = (.slice (some ⟨gb, ob, none⟩) nb cb) := hV 7 (by decide)
        have e8 : x 8 = (.int .i64 (nb)) := hV 8 (by decide)
        obtain ⟨q0, q1, q2⟩ := hS.1.three; have qb := hS.2.1
        go_simp
        exact hK.out _ _ _ rfl rfl rfl (Below.refl _ _)
      simp only [List.setIfInBounds_toArray, List.set_cons_zero, List.set_cons_succ]
      refine fun w' hS hV => ?_
      have e0 : x 0 = (.pointer (some ⟨g, 0, none⟩)) := hV 0 (by decide)
      have e1 : x 1 = (.pointer (some ⟨g, 0, none⟩)) := hV 1 (by decide)
      have e2 : x 2 = (.pointer (some ⟨g, 1, none⟩)) := hV 2 (by decide)
      have e3 : x 3 = (.int .i64 (pl)) := hV 3 (by decide)
      have e4 : x 4 = (.pointer (some ⟨g, 0, none⟩)) := hV 4 (by decide)
      have e5 : x 5 = (.pointer (some ⟨g, 0, none⟩)) := hV 5 (by decide)
      have e6 : x 6 = (.pointer (some ⟨g, 0, none⟩)) := hV 6 (by decide)
      have e7 : x 7 = (.slice (some ⟨gb, ob, none⟩) nb cb) := hV 7 (by decide)
      have e8 : x 8 = (.int .i64 (nb)) := hV 8 (by decide)
      have e9 : x 9 = (.bool true) := hV 9 (by decide)
      simp only [e0, e1, e2, e3, e4, e5, e6, e7, e8, e9]
      clear e0 e1 e2 e3 e4 e5 e6 e7 e8 e9
      refine wpAny_done (by kernel_rfl) ?_ _
      obtain ⟨w2, rfl⟩ : ∃ W, W = w' := ⟨_, rfl⟩
      obtain ⟨k2, hcb2, hb2⟩ := hS
      have HR2 := Lib.hid (HR1.out.below hb2)
      have HD2 := Lib.hid (HD.out.trans (Dr.of_below HD.out.s' hb2))
      clear k1 hcb hb2
      go_wp2
      refine wp_obs 13 [[], [], [1], [1, 2], [1, 2, 3], [], [5], [5, 6], [5, 6, 7], [1, 2, 3, 4, 5, 6, 7, 8], [1, 2, 3, 4, 5, 6, 7, 8, 9], [1, 2, 3, 4, 5, 6, 7, 8, 9, 10], [0, 1, 2, 3, 4, 5, 6, 7, 8, 9, 10, 11], [0, 1, 2, 3, 4, 5, 6, 7, 8, 9, 10, 11, 12]] [VIs (.int .i64 (X)), VIs (.pointer (some ⟨g, 0, none⟩)), VIs (.pointer (some ⟨g, 0, none⟩)), VIs (.pointer (some ⟨g, 0, none⟩)), VIs (.slice (some ⟨gb, ob, none⟩) nb cb), VIs (.pointer (some ⟨g, 0, none⟩)), VIs (.pointer (some ⟨g, 0, none⟩)), VIs (.pointer (some ⟨g, 1, none⟩)), VIs (.int .i64 (pl)), VIs (.pointer (some ⟨gb, ob + pl, none⟩)), VIs (.int .u8 bb), VIs (.int .i64 (bb)), VIs (.int .i64 (X + bb))] (fun w' => Blk w' g 143 #[.slice (some ⟨gb, ob, none⟩) nb cb, .int .i64 pl, .int .u64 H] ∧ w'.cell? ⟨gb, ob + pl, none⟩ = some (.int .u8 bb) ∧ Below w2.heap.size w2 w') (by kernel_rfl) (by kernel_rfl) (fun _ _ h hb => ⟨h.1.below hb h.1.lt, (hb.cell (World.block_lt_of_cell? _ _ h.2.1)).trans h.2.1, h.2.2.trans (hb.mono h.2.2.size)⟩) (⟨k2.drew, hcb2, (Below.refl _ _).drew⟩) (fun x => ?_)
      refine obs_step (Eq.trans (by simp only [List.getElem?_toArray, List.getElem?_cons_zero]; exact rfl) rfl) rfl (fun w' hS hV K hK => ?_) ?_
      · obtain ⟨q0, q1, q2⟩ := hS.1.three; have qb := hS.2.1
        go_simp
        exact hK.out _ _ _ rfl rfl rfl (Below.refl _ _)
      simp only [List.setIfInBounds_toArray, List.set_cons_zero, List.set_cons_succ]
      refine obs_step (Eq.trans (by simp only [List.getElem?_toArray, List.getElem?_cons_succ, List.getElem?_cons_zero]; exact rfl) rfl) rfl (fun w' hS hV K hK => ?_) ?_
      · obtain ⟨q0, q1, q2⟩ := hS.1.three; have qb := hS.2.1
        go_simp
        exact hK.out _ _ _ rfl rfl rfl (Below.refl _ _)
      simp only [List.setIfInBounds_toArray, List.set_cons_zero, List.set_cons_succ]
      refine obs_step (Eq.trans (by simp only [List.getElem?_toArray, List.getElem?_cons_succ, List.getElem?_cons_zero]; exact rfl) rfl) rfl (fun w' hS hV K hK => ?_) ?_
      · have e1 : x 1 = (.pointer (some ⟨g, 0, none⟩)) := hV 1 (by decide)
        obtain ⟨q0, q1, q2⟩ := hS.1.three; have qb := hS.2.1
        go_simp
        exact hK.out _ _ _ rfl rfl rfl (Below.refl _ _)
      simp only [List.setIfInBounds_toArray, List.set_cons_zero, List.set_cons_succ]
      refine obs_step (Eq.trans (by simp only [List.getElem?_toArray, List.getElem?_cons_succ, List.getElem?_cons_zero]; exact rfl) rfl) rfl (fun w' hS hV K hK => ?_) ?_
      · have e1 : x 1 = (.pointer (some ⟨g, 0, none⟩)) := hV 1 (by decide)
        have e2 : x 2 = (.pointer (some ⟨g, 0, none⟩)) := hV 2 (by decide)
        obtain ⟨q0, q1, q2⟩ := hS.1.three; have qb := hS.2.1
        go_simp
        exact hK.out _ _ _ rfl rfl rfl (Below.refl _ _)
      simp only [List.setIfInBounds_toArray, List.set_cons_zero, List.set_cons_succ]
      refine obs_step (Eq.trans (by simp only [List.getElem?_toArray, List.getElem?_cons_succ, List.getElem?_cons_zero]; exact rfl) rfl) rfl (fun w' hS hV K hK => ?_) ?_
      · have e1 : x 1 = (.pointer (some ⟨g, 0, none⟩)) := hV 1 (by decide)
        have e2 : x 2 = (.pointer (some ⟨g, 0, none⟩)) := hV 2 (by decide)
        have e3 : x 3 = (.pointer (some ⟨g, 0, none⟩)) := hV 3 (by decide)
        obtain ⟨q0, q1, q2⟩ := hS.1.three; have qb := hS.2.1
        go_simp
        exact hK.out _ _ _ rfl rfl rfl (Below.refl _ _)
      simp only [List.setIfInBounds_toArray, List.set_cons_zero, List.set_cons_succ]
      refine obs_step (Eq.trans (by simp only [List.getElem?_toArray, List.getElem?_cons_succ, List.getElem?_cons_zero]; exact rfl) rfl) rfl (fun w' hS hV K hK => ?_) ?_
      · obtain ⟨q0, q1, q2⟩ := hS.1.three; have qb := hS.2.1
        go_simp
        exact hK.out _ _ _ rfl rfl rfl (Below.refl _ _)
      simp only [List.setIfInBounds_toArray, List.set_cons_zero, List.set_cons_succ]
      refine obs_step (Eq.trans (by simp only [List.getElem?_toArray, List.getElem?_cons_succ, List.getElem?_cons_zero]; exact rfl) rfl) rfl (fun w' hS hV K hK => ?_) ?_
      · have e5 : x 5 = (.pointer (some ⟨g, 0, none⟩)) := hV 5 (by decide)
        obtain ⟨q0, q1, q2⟩ := hS.1.three; have qb := hS.2.1
        go_simp
        exact hK.out _ _ _ rfl rfl rfl (Below.refl _ _)
      simp only [List.setIfInBounds_toArray, List.set_cons_zero, List.set_cons_succ]
      refine obs_step (Eq.trans (by simp only [List.getElem?_toArray, List.getElem?_cons_succ, List.getElem?_cons_zero]; exact rfl) rfl) rfl (fun w' hS hV K hK => ?_) ?_
      · have e5 : x 5 = (.pointer (some ⟨g, 0, none⟩)) := hV 5 (by decide)
        have e6 : x 6 = (.pointer (some ⟨g, 0, none⟩)) := hV 6 (by decide)
        obtain ⟨q0, q1, q2⟩ := hS.1.three; have qb := hS.2.1
        go_simp
        exact hK.out _ _ _ rfl rfl rfl (Below.refl _ _)
      simp only [List.setIfInBounds_toArray, List.set_cons_zero, List.set_cons_succ]
      refine obs_step (Eq.trans (by simp only [List.getElem?_toArray, List.getElem?_cons_succ, List.getElem?_cons_zero]; exact rfl) rfl) rfl (fun w' hS hV K hK => ?_) ?_
      · have e5 : x 5 = (.pointer (some ⟨g, 0, none⟩)) := hV 5 (by decide)
        have e6 : x 6 = (.pointer (some ⟨g, 0, none⟩)) := hV 6 (by decide)
        have e7 : x 7 = (.pointer (some ⟨g, 1, none⟩)) := hV 7 (by decide)
        obtain ⟨q0, q1, q2⟩ := hS.1.three; have qb := hS.2.1
        go_simp
        exact hK.out _ _ _ rfl rfl rfl (Below.refl _ _)
      simp only [List.setIfInBounds_toArray, List.set_cons_zero, List.set_cons_succ]
      refine obs_step (Eq.trans (by simp only [List.getElem?_toArray, List.getElem?_cons_succ, List.getElem?_cons_zero]; exact rfl) rfl) rfl (fun w' hS hV K hK => ?_) ?_
      · have e1 : x 1 = (.pointer (some ⟨g, 0, none⟩)) := hV 1 (by decide)
        have e2 : x 2 = (.pointer (some ⟨g, 0, none⟩)) := hV 2 (by decide)
        have e3 : x 3 = (.pointer (some ⟨g, 0, none⟩)) := hV 3 (by decide)
        have e4 : x 4 = (.slice (some ⟨gb, ob, none⟩) nb cb) := hV 4 (by decide)
        have e5 : x 5 = (.pointer (some ⟨g, 0, none⟩)) := hV 5 (by decide)
        have e6 : x 6 = (.pointer (some ⟨g, 0, none⟩)) := hV 6 (by decide)
        have e7 : x 7 = (.pointer (some ⟨g, 1, none⟩)) := hV 7 (by decide)
        have e8 : x 8 = (.int .i64 (pl)) := hV 8 (by decide)
        obtain ⟨q0, q1, q2⟩ := hS.1.three; have qb := hS.2.1
        go_simp
        exact hK.out _ _ _ rfl rfl rfl (Below.refl _ _)
      simp only [List.setIfInBounds_toArray, List.set_cons_zero, List.set_cons_succ]
      refine obs_step (Eq.trans (by simp only [List.getElem?_toArray, List.getElem?_cons_succ, List.getElem?_cons_zero]; exact rfl) rfl) rfl (fun w' hS hV K hK => ?_) ?_
      · have e1 : x 1 = (.pointer (some ⟨g, 0, none⟩)) := hV 1 (by decide)
        have e2 : x 2 = (.pointer (some ⟨g, 0, none⟩)) := hV 2 (by decide)
        have e3 : x 3 = (.pointer (some ⟨g, 0, none⟩)) := hV 3 (by decide)
        have e4 : x 4 = (.slice (some ⟨gb, ob, none⟩) nb cb) := hV 4 (by decide)
        have e5 : x 5 = (.pointer (some ⟨g, 0, none⟩)) := hV 5 (by decide)
        have e6 : x 6 = (.pointer (some ⟨g, 0, none⟩)) := hV 6 (by decide)
        have e7 : x 7 = (.pointer (some ⟨g, 1, none⟩)) := hV 7 (by decide)
        have e8 : x 8 = (.int .i64 (pl)) := hV 8 (by decide)
        have e9 : x 9 = (.pointer (some ⟨gb, ob + pl, none⟩)) := hV 9 (by decide)
        obtain ⟨q0, q1, q2⟩ := hS.1.three; have qb := hS.2.1
        go_simp
        exact hK.out _ _ _ rfl rfl rfl (Below.refl _ _)
      simp only [List.setIfInBounds_toArray, List.set_cons_zero, List.set_cons_succ]
      refine obs_step (Eq.trans (by simp only [List.getElem?_toArray, List.getElem?_cons_succ, List.getElem?_cons_zero]; exact rfl) rfl) rfl (fun w' hS hV K hK => ?_) ?_
      · have e1 : x 1 = (.pointer (some ⟨g, 0, none⟩)) := hV 1 (by decide)
        have e2 : x 2 = (.pointer (some ⟨g, 0, none⟩)) := hV 2 (by decide)
        have e3 : x 3 = (.pointer (some ⟨g, 0, none⟩)) := hV 3 (by decide)
        have e4 : x 4 = (.slice (some ⟨gb, ob, none⟩) nb cb) := hV 4 (by decide)
        have e5 : x 5 = (.pointer (some ⟨g, 0, none⟩)) := hV 5 (by decide)
        have e6 : x 6 = (.pointer (some ⟨g, 0, none⟩)) := hV 6 (by decide)
        have e7 : x 7 = (.pointer (some ⟨g, 1, none⟩)) := hV 7 (by decide)
        have e8 : x 8 = (.int .i64 (pl)) := hV 8 (by decide)
        have e9 : x 9 = (.pointer (some ⟨gb, ob + pl, none⟩)) := hV 9 (by decide)
        have e10 : x 10 = (.int .u8 bb) := hV 10 (by decide)
        obtain ⟨q0, q1, q2⟩ := hS.1.three; have qb := hS.2.1
        go_simp
        exact hK.out _ _ _ rfl rfl rfl (Below.refl _ _)
      simp only [List.setIfInBounds_toArray, List.set_cons_zero, List.set_cons_succ]
      refine obs_step (Eq.trans (by simp only [List.getElem?_toArray, List.getElem?_cons_succ, List.getElem?_cons_zero]; exact rfl) rfl) rfl (fun w' hS hV K hK => ?_) ?_
      · have e0 : x 0 = (.int .i64 (X)) := hV 0 (by decide)
        have e1 : x 1 = (.pointer (some ⟨g, 0, none⟩)) := hV 1 (by decide)
        have e2 : x 2 = (.pointer (some ⟨g, 0, none⟩)) := hV 2 (by decide)
        have e3 : x 3 = (.pointer (some ⟨g, 0, none⟩)) := hV 3 (by decide)
        have e4 : x 4 = (.slice (some ⟨gb, ob, none⟩) nb cb) := hV 4 (by decide)
        have e5 : x 5 = (.pointer (some ⟨g, 0, none⟩)) := hV 5 (by decide)
        have e6 : x 6 = (.pointer (some ⟨g, 0, none⟩)) := hV 6 (by decide)
        have e7 : x 7 = (.pointer (some ⟨g, 1, none⟩)) := hV 7 (by decide)
        have e8 : x 8 = (.int .i64 (pl)) := hV 8 (by decide)
        have e9 : x 9 = (.pointer (some ⟨gb, ob + pl, none⟩)) := hV 9 (by decide)
        have e10 : x 10 = (.int .u8 bb) := hV 10 (by decide)
        have e11 : x 11 = (.int .i64 (bb)) := hV 11 (by decide)
        obtain ⟨q0, q1, q2⟩ := hS.1.three; have qb := hS.2.1
        go_simp
        exact hK.out _ _ _ rfl rfl rfl (Below.refl _ _)
      simp only [List.setIfInBounds_toArray, List.set_cons_zero, List.set_cons_succ]
      refine fun w' hS hV => ?_
      have e0 : x 0 = (.int .i64 (X)) := hV 0 (by decide)
      have e1 : x 1 = (.pointer (some ⟨g, 0, none⟩)) := hV 1 (by decide)
      have e2 : x 2 = (.pointer (some ⟨g, 0, none⟩)) := hV 2 (by decide)
      have e3 : x 3 = (.pointer (some ⟨g, 0, none⟩)) := hV 3 (by decide)
      have e4 : x 4 = (.slice (some ⟨gb, ob, none⟩) nb cb) := hV 4 (by decide)
      have e5 : x 5 = (.pointer (some ⟨g, 0, none⟩)) := hV 5 (by decide)
      have e6 : x 6 = (.pointer (some ⟨g, 0, none⟩)) := hV 6 (by decide)
      have e7 : x 7 = (.pointer (some ⟨g, 1, none⟩)) := hV 7 (by decide)
      have e8 : x 8 = (.int .i64 (pl)) := hV 8 (by decide)
      have e9 : x 9 = (.pointer (some ⟨gb, ob + pl, none⟩)) := hV 9 (by decide)
      have e10 : x 10 = (.int .u8 bb) := hV 10 (by decide)
      have e11 : x 11 = (.int .i64 (bb)) := hV 11 (by decide)
      have e12 : x 12 = (.int .i64 (X + bb)) := hV 12 (by decide)
      simp only [e0, e1, e2, e3, e4, e5, e6, e7, e8, e9, e10, e11, e12]
      clear e0 e1 e2 e3 e4 e5 e6 e7 e8 e9 e10 e11 e12
      refine any_one (j := 13) (by kernel_rfl) (Eq.trans (by simp only [List.getElem?_toArray, List.getElem?_cons_succ, List.getElem?_cons_zero]; exact rfl) rfl) (fun K hK => ?_)
      go_simp
      refine hK.out _ _ (wpAny_done (by kernel_rfl) ?_ _)
      obtain ⟨w3, rfl⟩ : ∃ W, W = w' := ⟨_, rfl⟩
      obtain ⟨k3, hcb3, hb3⟩ := hS
      have HR3 := Lib.hid (HR2.out.below hb3)
      have HD3 := Lib.hid (HD2.out.trans (Dr.of_below HD2.out.s' hb3))
      obtain ⟨hd4, k4, r4⟩ := Dr.set k3 HR3.out HBS.out hpl hnb HBG.out 1 (.int .i64 ((pl + 1 : Nat) : Int)) (pl' := pl + 1) (h' := H) (by simp) hpn
      have HD4 := Lib.hid (HD3.out.trans hd4)
      have q1 : w3.cell? ⟨g, 1, none⟩ = some (.int .i64 pl) := k3.cell 1
      have f1 := k3.frozen 1
      clear k2 hcb2 hb3 hd4 k4 r4
      go_wp2
      go_ret
      refine ⟨(X + bb) % n, rfl, Int.emod_nonneg _ hN2, fun hn => Int.emod_lt_of_pos _ (by omega), ?_⟩
      first
        | exact HD4.out
        | (rw [W5]; exact HD4.out)
    · have dl : decide ((pl : Int) < (nb : Int)) = false := by simp; omega
      have T1 := Int.tmod_eq_emod_of_nonneg (b := n) (show 0 ≤ X by omega)
      clear hbs r1
      go_wp2
      refine wp_obs 10 [[], [0], [0, 1], [0, 1, 2], [], [4], [4, 5], [4, 5, 6], [4, 5, 6, 7], [0, 1, 2, 3, 4, 5, 6, 7, 8]] [VIs (.pointer (some ⟨g, 0, none⟩)), VIs (.pointer (some ⟨g, 0, none⟩)), VIs (.pointer (some ⟨g, 1, none⟩)), VIs (.int .i64 (pl)), VIs (.pointer (some ⟨g, 0, none⟩)), VIs (.pointer (some ⟨g, 0, none⟩)), VIs (.pointer (some ⟨g, 0, none⟩)), VIs (.slice B nb cb), VIs (.int .i64 (nb)), VIs (.bool false)] (fun w' => Blk w' g 143 #[.slice B nb cb, .int .i64 pl, .int .u64 H] ∧ Below w1.heap.size w1 w') (by kernel_rfl) (by kernel_rfl) (fun _ _ h hb => ⟨h.1.below hb h.1.lt, h.2.trans (hb.mono h.2.size)⟩) (⟨k1.drew, (Below.refl _ _).drew⟩) (fun x => ?_)
      refine obs_step (Eq.trans (by simp only [List.getElem?_toArray, List.getElem?_cons_zero]; exact rfl) rfl) rfl (fun w' hS hV K hK => ?_) ?_
      · obtain ⟨q0, q1, q2⟩ := hS.1.three
        go_simp
        exact hK.out _ _ _ rfl rfl rfl (Below.refl _ _)
      simp only [List.setIfInBounds_toArray, List.set_cons_zero, List.set_cons_succ]
      refine obs_step (Eq.trans (by simp only [List.getElem?_toArray, List.getElem?_cons_succ, List.getElem?_cons_zero]; exact rfl) rfl) rfl (fun w' hS hV K hK => ?_) ?_
      · have e0 : x 0 = (.pointer (some ⟨g, 0, none⟩)) := hV 0 (by decide)
        obtain ⟨q0, q1, q2⟩ := hS.1.three
        go_simp
        exact hK.out _ _ _ rfl rfl rfl (Below.refl _ _)
      simp only [List.setIfInBounds_toArray, List.set_cons_zero, List.set_cons_succ]
      refine obs_step (Eq.trans (by simp only [List.getElem?_toArray, List.getElem?_cons_succ, List.getElem?_cons_zero]; exact rfl) rfl) rfl (fun w' hS hV K hK => ?_) ?_
      · have e0 : x 0 = (.pointer (some ⟨g, 0, none⟩)) := hV 0 (by decide)
        have e1 : x 1 = (.pointer (some ⟨g, 0, none⟩)) := hV 1 (by decide)
        obtain ⟨q0, q1, q2⟩ := hS.1.three
        go_simp
        exact hK.out _ _ _ rfl rfl rfl (Below.refl _ _)
      simp only [List.setIfInBounds_toArray, List.set_cons_zero, List.set_cons_succ]
      refine obs_step (Eq.trans (by simp only [List.getElem?_toArray, List.getElem?_cons_succ, List.getElem?_cons_zero]; exact rfl) rfl) rfl (fun w' hS hV K hK => ?_) ?_
      · have e0 : x 0 = (.pointer (some ⟨g, 0, none⟩)) := hV 0 (by decide)
        have e1 : x 1 = (.pointer (some ⟨g, 0, none⟩)) := hV 1 (by decide)
        have e2 : x 2 = (.pointer (some ⟨g, 1, none⟩)) := hV 2 (by decide)
        obtain ⟨q0, q1, q2⟩ := hS.1.three
        go_simp
        exact hK.out _ _ _ rfl rfl rfl (Below.refl _ _)
      simp only [List.setIfInBounds_toArray, List.set_cons_zero, List.set_cons_succ]
      refine obs_step (Eq.trans (by simp only [List.getElem?_toArray, List.getElem?_cons_succ, List.getElem?_cons_zero]; exact rfl) rfl) rfl (fun w' hS hV K hK => ?_) ?_
      · obtain ⟨q0, q1, q2⟩ := hS.1.three
        go_simp
        exact hK.out _ _ _ rfl rfl rfl (Below.refl _ _)
      simp only [List.setIfInBounds_toArray, List.set_cons_zero, List.set_cons_succ]
      refine obs_step (Eq.trans (by simp only [List.getElem?_toArray, List.getElem?_cons_succ, List.getElem?_cons_zero]; exact rfl) rfl) rfl (fun w' hS hV K hK => ?_) ?_
      · have e4 : x 4 = (.pointer (some ⟨g, 0, none⟩)) := hV 4 (by decide)
        obtain ⟨q0, q1, q2⟩ := hS.1.three
        go_simp
        exact hK.out _ _ _ rfl rfl rfl (Below.refl _ _)
      simp only [List.setIfInBounds_toArray, List.set_cons_zero, List.set_cons_succ]
      refine obs_step (Eq.trans (by simp only [List.getElem?_toArray, List.getElem?_cons_succ, List.getElem?_cons_zero]; exact rfl) rfl) rfl (fun w' hS hV K hK => ?_) ?_
      · have e4 : x 4 = (.pointer (some ⟨g, 0, none⟩)) := hV 4 (by decide)
        have e5 : x 5 = (.pointer (some ⟨g, 0, none⟩)) := hV 5 (by decide)
        obtain ⟨q0, q1, q2⟩ := hS.1.three
        go_simp
        exact hK.out _ _ _ rfl rfl rfl (Below.refl _ _)
      simp only [List.setIfInBounds_toArray, List.set_cons_zero, List.set_cons_succ]
      refine obs_step (Eq.trans (by simp only [List.getElem?_toArray, List.getElem?_cons_succ, List.getElem?_cons_zero]; exact rfl) rfl) rfl (fun w' hS hV K hK => ?_) ?_
      · have e4 : x 4 = (.pointer (some ⟨g, 0, none⟩)) := hV 4 (by decide)
        have e5 : x 5 = (.pointer (some ⟨g, 0, none⟩)) := hV 5 (by decide)
        have e6 : x 6 = (.pointer (some ⟨g, 0, none⟩)) := hV 6 (by decide)
        obtain ⟨q0, q1, q2⟩ := hS.1.three
        go_simp
        exact hK.out _ _ _ rfl rfl rfl (Below.refl _ _)
      simp only [List.setIfInBounds_toArray, List.set_cons_zero, List.set_cons_succ]
      refine obs_step (Eq.trans (by simp only [List.getElem?_toArray, List.getElem?_cons_succ, List.getElem?_cons_zero]; exact rfl) rfl) rfl (fun w' hS hV K hK => ?_) ?_
      · have e4 : x 4 = (.pointer (some ⟨g, 0, none⟩)) := hV 4 (by decide)
        have e5 : x 5 = (.pointer (some ⟨g, 0, none⟩)) := hV 5 (by decide)
        have e6 : x 6 = (.pointer (some ⟨g, 0, none⟩)) := hV 6 (by decide)
        have e7 : x 7 = (.slice B nb cb) := hV 7 (by decide)
        obtain ⟨q0, q1, q2⟩ := hS.1.three
        go_simp
        exact hK.out _ _ _ rfl rfl rfl (Below.refl _ _)
      simp only [List.setIfInBounds_toArray, List.set_cons_zero, List.set_cons_succ]
      refine obs_step (Eq.trans (by simp only [List.getElem?_toArray, List.getElem?_cons_succ, List.getElem?_cons_zero]; exact rfl) rfl) rfl (fun w' hS hV K hK => ?_) ?_
      · have e0 : x 0 = (.pointer (some ⟨g, 0, none⟩)) := hV 0 (by decide)
        have e1 : x 1 = (.pointer (some ⟨g, 0, none⟩)) := hV 1 (by decide)
        have e2 : x 2 = (.pointer (some ⟨g, 1, none⟩)) := hV 2 (by decide)
        have e3 : x 3 = (.int .i64 (pl)) := hV 3 (by decide)
        have e4 : x 4 = (.pointer (some ⟨g, 0, none⟩)) := hV 4 (by decide)
        have e5 : x 5 = (.pointer (some ⟨g, 0, none⟩)) := hV 5 (by decide)
        have e6 : x 6 = (.pointer (some ⟨g, 0, none⟩)) := hV 6 (by decide)
        have e7 : x 7 = (.slice B nb cb) := hV 7 (by decide)
        have e8 : x 8 = (.int .i64 (nb)) := hV 8 (by decide)
        obtain ⟨q0, q1, q2⟩ := hS.1.three
        go_simp
        exact hK.out _ _ _ rfl rfl rfl (Below.refl _ _)
      simp only [List.setIfInBounds_toArray, List.set_cons_zero, List.set_cons_succ]
      refine fun w' hS hV => ?_
      have e0 : x 0 = (.pointer (some ⟨g, 0, none⟩)) := hV 0 (by decide)
      have e1 : x 1 = (.pointer (some ⟨g, 0, none⟩)) := hV 1 (by decide)
      have e2 : x 2 = (.pointer (some ⟨g, 1, none⟩)) := hV 2 (by decide)
      have e3 : x 3 = (.int .i64 (pl)) := hV 3 (by decide)
      have e4 : x 4 = (.pointer (some ⟨g, 0, none⟩)) := hV 4 (by decide)
      have e5 : x 5 = (.pointer (some ⟨g, 0, none⟩)) := hV 5 (by decide)
      have e6 : x 6 = (.pointer (some ⟨g, 0, none⟩)) := hV 6 (by decide)
      have e7 : x 7 = (.slice B nb cb) := hV 7 (by decide)
      have e8 : x 8 = (.int .i64 (nb)) := hV 8 (by decide)
      have e9 : x 9 = (.bool false) := hV 9 (by decide)
      simp only [e0, e1, e2, e3, e4, e5, e6, e7, e8, e9]
      clear e0 e1 e2 e3 e4 e5 e6 e7 e8 e9
      refine wpAny_done (by kernel_rfl) ?_ _
      obtain ⟨w2, rfl⟩ : ∃ W, W = w' := ⟨_, rfl⟩
      obtain ⟨k2, hb2⟩ := hS
      have HD2 := Lib.hid (HD.out.trans (Dr.of_below HD.out.s' hb2))
      clear k1 hb2 k2
      go_wp2
      go_ret
      exact ⟨X % n, rfl, Int.emod_nonneg _ hN2, fun hn => Int.emod_lt_of_pos _ (by omega), HD2.out⟩
set_option maxHeartbeats 1600000 in
set_option maxRecDepth 8000 in
theorem below_any (g : Nat) (n : Int) (w : World) (hs : Src w g 99) (hn : n ≤ 4611686018427387904) :
    Calls Tryz.prog 173 #[.pointer (some ⟨g, 0, none⟩), .int .i64 n] w fun e w' => ∃ r : Int, e = .returned (.int .i64 r) ∧ 0 ≤ r ∧ (1 ≤ n → r < n) ∧ Dr g 99 w w' := by
  by_cases h1 : n < 1
  · have d1 : decide (n < 1) = true := by simpa using h1
    go_enter Tryz.func173, Tryz.ntmps173
    go_wp2
    go_ret
    exact ⟨0, rfl, by omega, fun h => by omega, Dr.refl hs⟩
  · have d1 : decide (n < 1) = false := by simpa using h1
    obtain ⟨B, nb, cb, bs, pl, h, k, r, hbs, hpl, hnb, hbg⟩ := id hs
    have q0 : w.cell? ⟨g, 0, none⟩ = some (.slice B nb cb) := k.cell 0
    have q1 : w.cell? ⟨g, 1, none⟩ = some (.int .i64 pl) := k.cell 1
    have q2 : w.cell? ⟨g, 2, none⟩ = some (.int .u64 h) := k.cell 2
    have f2 := k.frozen 2
    go_enter Tryz.func173, Tryz.ntmps173
    go_wp2
    obtain ⟨H, hH⟩ : ∃ H, H = IntKind.u64.wrap (IntKind.u64.wrap (h * 6364136223846793005) + 1442695040888963407) := ⟨_, rfl⟩
    rw [← hH]
    have hsm := and_small (H / 8589934592)
    obtain ⟨X, hX⟩ : ∃ X, X = bits BinOp.and IntKind.u64 (H / 8589934592) 16777215 := ⟨_, rfl⟩
    rw [← hX] at hsm ⊢
    have W1 : wrap64 X = X := by unfold wrap64; omega
    rw [W1]
    obtain ⟨x1, x2⟩ := hsm
    obtain ⟨hd1, k1, r1⟩ := Dr.set k r hbs hpl hnb hbg 2 (.int .u64 H) (pl' := pl) (h' := H) (by simp) hpl
    clear q0 q1 q2 f2 hX
    obtain ⟨w1, hw1⟩ : ∃ W, W = w.setCell ⟨g, 2, none⟩ (.int .u64 H) := ⟨_, rfl⟩
    rw [← hw1] at k1 r1 hd1 ⊢
    have hN0 : (n == 0) = false := by simp; omega
    have hN1 : (n == -1) = false := by simp; omega
    have hN2 : ¬ n = 0 := by omega
    have HD := Lib.hid hd1
    have HBS := Lib.hid hbs
    have HBG := Lib.hid hbg
    have HR1 := Lib.hid r1
    clear hw1 hH hd1 r k hbg
    by_cases hpn : pl < nb
    · have dl : decide ((pl : Int) < (nb : Int)) = true := by simp; omega
      obtain ⟨gb, ob, rfl, hc⟩ := r1.2 (by omega)
      have hbl : pl < bs.length := by have := r1.1; rw [List.length_map] at this; omega
      have hcb := hc pl (.int .u8 bs[pl]) (by simp [hbl])
      obtain ⟨b1, b2⟩ := hbs _ (List.getElem_mem hbl)
      obtain ⟨bb, hbb⟩ : ∃ x, x = bs[pl] := ⟨_, rfl⟩
      rw [← hbb] at hcb b1 b2
      have i1 : (0 : Int) ≤ (pl : Int) := by omega
      have i2 : (pl : Int) < (nb : Int) := by omega
      have W2 : IntKind.i64.wrap bb = bb := by rw [IntWalk.i64_left]; unfold wrap64; omega
      have W4 : IntKind.i64.wrap (X + bb) = X + bb := by rw [IntWalk.i64_left]; unfold wrap64; omega
      have W5 : wrap64 ((pl : Int) + 1) = ((pl + 1 : Nat) : Int) := by unfold wrap64; omega
      have T1 := Int.tmod_eq_emod_of_nonneg (b := n) (show 0 ≤ X + bb by omega)
      clear hc hbs hbb r1
      go_wp2
      refine wp_obs 10 [[], [0], [0, 1], [0, 1, 2], [], [4], [4, 5], [4, 5, 6], [4, 5, 6, 7], [0, 1, 2, 3, 4, 5, 6, 7, 8]] [VIs (.pointer (some ⟨g, 0, none⟩)), VIs (.pointer (some ⟨g, 0, none⟩)), VIs (.pointer (some ⟨g, 1, none⟩)), VIs (.int .i64 (pl)), VIs (.pointer (some ⟨g, 0, none⟩)), VIs (.pointer (some ⟨g, 0, none⟩)), VIs (.pointer (some ⟨g, 0, none⟩)), VIs (.slice (some ⟨gb, ob, none⟩) nb cb), VIs (.int .i64 (nb)), VIs (.bool true)] (fun w' => Blk w' g 99 #[.slice (some ⟨gb, ob, none⟩) nb cb, .int .i64 pl, .int .u64 H] ∧ w'.cell? ⟨gb, ob + pl, none⟩ = some (.int .u8 bb) ∧ Below w1.heap.size w1 w') (by kernel_rfl) (by kernel_rfl) (fun _ _ h hb => ⟨h.1.below hb h.1.lt, (hb.cell (World.block_lt_of_cell? _ _ h.2.1)).trans h.2.1, h.2.2.trans (hb.mono h.2.2.size)⟩) (⟨k1.drew, hcb, (Below.refl _ _).drew⟩) (fun x => ?_)
      refine obs_step (Eq.trans (by simp only [List.getElem?_toArray, List.getElem?_cons_zero]; exact rfl) rfl) rfl (fun w' hS hV K hK => ?_) ?_
      · obtain ⟨q0, q1, q2⟩ := hS.1.three; have qb := hS.2.1
        go_simp
        exact hK.out _ _ _ rfl rfl rfl (Below.refl _ _)
      simp only [List.setIfInBounds_toArray, List.set_cons_zero, List.set_cons_succ]
      refine obs_step (Eq.trans (by simp only [List.getElem?_toArray, List.getElem?_cons_succ, List.getElem?_cons_zero]; exact rfl) rfl) rfl (fun w' hS hV K hK => ?_) ?_
      · have e0 : x 0 = (.pointer (some ⟨g, 0, none⟩)) := hV 0 (by decide)
        obtain ⟨q0, q1, q2⟩ := hS.1.three; have qb := hS.2.1
        go_simp
        exact hK.out _ _ _ rfl rfl rfl (Below.refl _ _)
      simp only [List.setIfInBounds_toArray, List.set_cons_zero, List.set_cons_succ]
      refine obs_step (Eq.trans (by simp only [List.getElem?_toArray, List.getElem?_cons_succ, List.getElem?_cons_zero]; exact rfl) rfl) rfl (fun w' hS hV K hK => ?_) ?_
      · have e0 : x 0 = (.pointer (some ⟨g, 0, none⟩)) := hV 0 (by decide)
        have e1 : x 1 = (.pointer (some ⟨g, 0, none⟩)) := hV 1 (by decide)
        obtain ⟨q0, q1, q2⟩ := hS.1.three; have qb := hS.2.1
        go_simp
        exact hK.out _ _ _ rfl rfl rfl (Below.refl _ _)
      simp only [List.setIfInBounds_toArray, List.set_cons_zero, List.set_cons_succ]
      refine obs_step (Eq.trans (by simp only [List.getElem?_toArray, List.getElem?_cons_succ, List.getElem?_cons_zero]; exact rfl) rfl) rfl (fun w' hS hV K hK => ?_) ?_
      · have e0 : x 0 = (.pointer (some ⟨g, 0, none⟩)) := hV 0 (by decide)
        have e1 : x 1 = (.pointer (some ⟨g, 0, none⟩)) := hV 1 (by decide)
        have e2 : x 2 = (.pointer (some ⟨g, 1, none⟩)) := hV 2 (by decide)
        obtain ⟨q0, q1, q2⟩ := hS.1.three; have qb := hS.2.1
        go_simp
        exact hK.out _ _ _ rfl rfl rfl (Below.refl _ _)
      simp only [List.setIfInBounds_toArray, List.set_cons_zero, List.set_cons_succ]
      refine obs_step (Eq.trans (by simp only [List.getElem?_toArray, List.getElem?_cons_succ, List.getElem?_cons_zero]; exact rfl) rfl) rfl (fun w' hS hV K hK => ?_) ?_
      · obtain ⟨q0, q1, q2⟩ := hS.1.three; have qb := hS.2.1
        go_simp
        exact hK.out _ _ _ rfl rfl rfl (Below.refl _ _)
      simp only [List.setIfInBounds_toArray, List.set_cons_zero, List.set_cons_succ]
      refine obs_step (Eq.trans (by simp only [List.getElem?_toArray, List.getElem?_cons_succ, List.getElem?_cons_zero]; exact rfl) rfl) rfl (fun w' hS hV K hK => ?_) ?_
      · have e4 : x 4 = (.pointer (some ⟨g, 0, none⟩)) := hV 4 (by decide)
        obtain ⟨q0, q1, q2⟩ := hS.1.three; have qb := hS.2.1
        go_simp
        exact hK.out _ _ _ rfl rfl rfl (Below.refl _ _)
      simp only [List.setIfInBounds_toArray, List.set_cons_zero, List.set_cons_succ]
      refine obs_step (Eq.trans (by simp only [List.getElem?_toArray, List.getElem?_cons_succ, List.getElem?_cons_zero]; exact rfl) rfl) rfl (fun w' hS hV K hK => ?_) ?_
      · have e4 : x 4 = (.pointer (some ⟨g, 0, none⟩)) := hV 4 (by decide)
        have e5 : x 5 = (.pointer (some ⟨g, 0, none⟩)) := hV 5 (by decide)
        obtain ⟨q0, q1, q2⟩ := hS.1.three; have qb := hS.2.1
        go_simp
        exact hK.out _ _ _ rfl rfl rfl (Below.refl _ _)
      simp only [List.setIfInBounds_toArray, List.set_cons_zero, List.set_cons_succ]
      refine obs_step (Eq.trans (by simp only [List.getElem?_toArray, List.getElem?_cons_succ, List.getElem?_cons_zero]; exact rfl) rfl) rfl (fun w' hS hV K hK => ?_) ?_
      · have e4 : x 4 = (.pointer (some ⟨g, 0, none⟩)) := hV 4 (by decide)
        have e5 : x 5 = (.pointer (some ⟨g, 0, none⟩)) := hV 5 (by decide)
        have e6 : x 6 = (.pointer (some ⟨g, 0, none⟩)) := hV 6 (by decide)
        obtain ⟨q0, q1, q2⟩ := hS.1.three; have qb := hS.2.1
        go_simp
        exact hK.out _ _ _ rfl rfl rfl (Below.refl _ _)
      simp only [List.setIfInBounds_toArray, List.set_cons_zero, List.set_cons_succ]
      refine obs_step (Eq.trans (by simp only [List.getElem?_toArray, List.getElem?_cons_succ, List.getElem?_cons_zero]; exact rfl) rfl) rfl (fun w' hS hV K hK => ?_) ?_
      · have e4 : x 4 = (.pointer (some ⟨g, 0, none⟩)) := hV 4 (by decide)
        have e5 : x 5 = (.pointer (some ⟨g, 0, none⟩)) := hV 5 (by decide)
        have e6 : x 6 = (.pointer (some ⟨g, 0, none⟩)) := hV 6 (by decide)
        have e7 : x 7 = (.slice (some ⟨gb, ob, none⟩) nb cb) := hV 7 (by decide)
        obtain ⟨q0, q1, q2⟩ := hS.1.three; have qb := hS.2.1
        go_simp
        exact hK.out _ _ _ rfl rfl rfl (Below.refl _ _)
      simp only [List.setIfInBounds_toArray, List.set_cons_zero, List.set_cons_succ]
      refine obs_step (Eq.trans (by simp only [List.getElem?_toArray, List.getElem?_cons_succ, List.getElem?_cons_zero]; exact rfl) rfl) rfl (fun w' hS hV K hK => ?_) ?_
      · have e0 : x 0 = (.pointer (some ⟨g, 0, none⟩)) := hV 0 (by decide)
        have e1 : x 1 = (.pointer (some ⟨g, 0, none⟩)) := hV 1 (by decide)
        have e2 : x 2 = (.pointer (some ⟨g, 1, none⟩)) := hV 2 (by decide)
        have e3 : x 3 = (.int .i64 (pl)) := hV 3 (by decide)
        have e4 : x 4 = (.pointer (some ⟨g, 0, none⟩)) := hV 4 (by decide)
        have e5 : x 5 = (.pointer (some ⟨g, 0, none⟩)) := hV 5 (by decide)
        have e6 : x 6 = (.pointer (some ⟨g, 0, none⟩)) := hV 6 (by decide)
        have e7 : x 7 = (.slice (some ⟨gb, ob, none⟩) nb cb) := hV 7 (by decide)
        have e8 : x 8 = (.int .i64 (nb)) := hV 8 (by decide)
        obtain ⟨q0, q1, q2⟩ := hS.1.three; have qb := hS.2.1
        go_simp
        exact hK.out _ _ _ rfl rfl rfl (Below.refl _ _)
      simp only [List.setIfInBounds_toArray, List.set_cons_zero, List.set_cons_succ]
      refine fun w' hS hV => ?_
      have e0 : x 0 = (.pointer (some ⟨g, 0, none⟩)) := hV 0 (by decide)
      have e1 : x 1 = (.pointer (some ⟨g, 0, none⟩)) := hV 1 (by decide)
      have e2 : x 2 = (.pointer (some ⟨g, 1, none⟩)) := hV 2 (by decide)
      have e3 : x 3 = (.int .i64 (pl)) := hV 3 (by decide)
      have e4 : x 4 = (.pointer (some ⟨g, 0, none⟩)) := hV 4 (by decide)
      have e5 : x 5 = (.pointer (some ⟨g, 0, none⟩)) := hV 5 (by decide)
      have e6 : x 6 = (.pointer (some ⟨g, 0, none⟩)) := hV 6 (by decide)
      have e7 : x 7 = (.slice (some ⟨gb, ob, none⟩) nb cb) := hV 7 (by decide)
      have e8 : x 8 = (.int .i64 (nb)) := hV 8 (by decide)
      have e9 : x 9 = (.bool true) := hV 9 (by decide)
      simp only [e0, e1, e2, e3, e4, e5, e6, e7, e8, e9]
      clear e0 e1 e2 e3 e4 e5 e6 e7 e8 e9
      refine wpAny_done (by kernel_rfl) ?_ _
      obtain ⟨w2, rfl⟩ : ∃ W, W = w' := ⟨_, rfl⟩
      obtain ⟨k2, hcb2, hb2⟩ := hS
      have HR2 := Lib.hid (HR1.out.below hb2)
      have HD2 := Lib.hid (HD.out.trans (Dr.of_below HD.out.s' hb2))
      clear k1 hcb hb2
      go_wp2
      refine wp_obs 13 [[], [], [1], [1, 2], [1, 2, 3], [], [5], [5, 6], [5, 6, 7], [1, 2, 3, 4, 5, 6, 7, 8], [1, 2, 3, 4, 5, 6, 7, 8, 9], [1, 2, 3, 4, 5, 6, 7, 8, 9, 10], [0, 1, 2, 3, 4, 5, 6, 7, 8, 9, 10, 11], [0, 1, 2, 3, 4, 5, 6, 7, 8, 9, 10, 11, 12]] [VIs (.int .i64 (X)), VIs (.pointer (some ⟨g, 0, none⟩)), VIs (.pointer (some ⟨g, 0, none⟩)), VIs (.pointer (some ⟨g, 0, none⟩)), VIs (.slice (some ⟨gb, ob, none⟩) nb cb), VIs (.pointer (some ⟨g, 0, none⟩)), VIs (.pointer (some ⟨g, 0, none⟩)), VIs (.pointer (some ⟨g, 1, none⟩)), VIs (.int .i64 (pl)), VIs (.pointer (some ⟨gb, ob + pl, none⟩)), VIs (.int .u8 bb), VIs (.int .i64 (bb)), VIs (.int .i64 (X + bb))] (fun w' => Blk w' g 99 #[.slice (some ⟨gb, ob, none⟩) nb cb, .int .i64 pl, .int .u64 H] ∧ w'.cell? ⟨gb, ob + pl, none⟩ = some (.int .u8 bb) ∧ Below w2.heap.size w2 w') (by kernel_rfl) (by kernel_rfl) (fun _ _ h hb => ⟨h.1.below hb h.1.lt, (hb.cell (World.block_lt_of_cell? _ _ h.2.1)).trans h.2.1, h.2.2.trans (hb.mono h.2.2.size)⟩) (⟨k2.drew, hcb2, (Below.refl _ _).drew⟩) (fun x => ?_)
      refine obs_step (Eq.trans (by simp only [List.getElem?_toArray, List.getElem?_cons_zero]; exact rfl) rfl) rfl (fun w' hS hV K hK => ?_) ?_
      · obtain ⟨q0, q1, q2⟩ := hS.1.three; have qb := hS.2.1
        go_simp
        exact hK.out _ _ _ rfl rfl rfl (Below.refl _ _)
      simp only [List.setIfInBounds_toArray, List.set_cons_zero, List.set_cons_succ]
      refine obs_step (Eq.trans (by simp only [List.getElem?_toArray, List.getElem?_cons_succ, List.getElem?_cons_zero]; exact rfl) rfl) rfl (fun w' hS hV K hK => ?_) ?_
      · obtain ⟨q0, q1, q2⟩ := hS.1.three; have qb := hS.2.1
        go_simp
        exact hK.out _ _ _ rfl rfl rfl (Below.refl _ _)
      simp only [List.setIfInBounds_toArray, List.set_cons_zero, List.set_cons_succ]
      refine obs_step (Eq.trans (by simp only [List.getElem?_toArray, List.getElem?_cons_succ, List.getElem?_cons_zero]; exact rfl) rfl) rfl (fun w' hS hV K hK => ?_) ?_
      · have e1 : x 1 = (.pointer (some ⟨g, 0, none⟩)) := hV 1 (by decide)
        obtain ⟨q0, q1, q2⟩ := hS.1.three; have qb := hS.2.1
        go_simp
        exact hK.out _ _ _ rfl rfl rfl (Below.refl _ _)
      simp only [List.setIfInBounds_toArray, List.set_cons_zero, List.set_cons_succ]
      refine obs_step (Eq.trans (by simp only [List.getElem?_toArray, List.getElem?_cons_succ, List.getElem?_cons_zero]; exact rfl) rfl) rfl (fun w' hS hV K hK => ?_) ?_
      · have e1 : x 1 = (.pointer (some ⟨g, 0, none⟩)) := hV 1 (by decide)
        have e2 : x 2 = (.pointer (some ⟨g, 0, none⟩)) := hV 2 (by decide)
        obtain ⟨q0, q1, q2⟩ := hS.1.three; have qb := hS.2.1
        go_simp
        exact hK.out _ _ _ rfl rfl rfl (Below.refl _ _)
      simp only [List.setIfInBounds_toArray, List.set_cons_zero, List.set_cons_succ]
      refine obs_step (Eq.trans (by simp only [List.getElem?_toArray, List.getElem?_cons_succ, List.getElem?_cons_zero]; exact rfl) rfl) rfl (fun w' hS hV K hK => ?_) ?_
      · have e1 : x 1 = (.pointer (some ⟨g, 0, none⟩)) := hV 1 (by decide)
        have e2 : x 2 = (.pointer (some ⟨g, 0, none⟩)) := hV 2 (by decide)
        have e3 : x 3 = (.pointer (some ⟨g, 0, none⟩)) := hV 3 (by decide)
        obtain ⟨q0, q1, q2⟩ := hS.1.three; have qb := hS.2.1
        go_simp
        exact hK.out _ _ _ rfl rfl rfl (Below.refl _ _)
      simp only [List.setIfInBounds_toArray, List.set_cons_zero, List.set_cons_succ]
      refine obs_step (Eq.trans (by simp only [List.getElem?_toArray, List.getElem?_cons_succ, List.getElem?_cons_zero]; exact rfl) rfl) rfl (fun w' hS hV K hK => ?_) ?_
      · obtain ⟨q0, q1, q2⟩ := hS.1.three; have qb := hS.2.1
        go_simp
        exact hK.out _ _ _ rfl rfl rfl (Below.refl _ _)
      simp only [List.setIfInBounds_toArray, List.set_cons_zero, List.set_cons_succ]
      refine obs_step (Eq.trans (by simp only [List.getElem?_toArray, List.getElem?_cons_succ, List.getElem?_cons_zero]; exact rfl) rfl) rfl (fun w' hS hV K hK => ?_) ?_
      · have e5 : x 5 = (.pointer (some ⟨g, 0, none⟩)) := hV 5 (by decide)
        obtain ⟨q0, q1, q2⟩ := hS.1.three; have qb := hS.2.1
        go_simp
        exact hK.out _ _ _ rfl rfl rfl (Below.refl _ _)
      simp only [List.setIfInBounds_toArray, List.set_cons_zero, List.set_cons_succ]
      refine obs_step (Eq.trans (by simp only [List.getElem?_toArray, List.getElem?_cons_succ, List.getElem?_cons_zero]; exact rfl) rfl) rfl (fun w' hS hV K hK => ?_) ?_
      · have e5 : x 5 = (.pointer (some ⟨g, 0, none⟩)) := hV 5 (by decide)
        have e6 : x 6 = (.pointer (some ⟨g, 0, none⟩)) := hV 6 (by decide)
        obtain ⟨q0, q1, q2⟩ := hS.1.three; have qb := hS.2.1
        go_simp
        exact hK.out _ _ _ rfl rfl rfl (Below.refl _ _)
      simp only [List.setIfInBounds_toArray, List.set_cons_zero, List.set_cons_succ]
      refine obs_step (Eq.trans (by simp only [List.getElem?_toArray, List.getElem?_cons_succ, List.getElem?_cons_zero]; exact rfl) rfl) rfl (fun w' hS hV K hK => ?_) ?_
      · have e5 : x 5 = (.pointer (some ⟨g, 0, none⟩)) := hV 5 (by decide)
        have e6 : x 6 = (.pointer (some ⟨g, 0, none⟩)) := hV 6 (by decide)
        have e7 : x 7 = (.pointer (some ⟨g, 1, none⟩)) := hV 7 (by decide)
        obtain ⟨q0, q1, q2⟩ := hS.1.three; have qb := hS.2.1
        go_simp
        exact hK.out _ _ _ rfl rfl rfl (Below.refl _ _)
      simp only [List.setIfInBounds_toArray, List.set_cons_zero, List.set_cons_succ]
      refine obs_step (Eq.trans (by simp only [List.getElem?_toArray, List.getElem?_cons_succ, List.getElem?_cons_zero]; exact rfl) rfl) rfl (fun w' hS hV K hK => ?_) ?_
      · have e1 : x 1 = (.pointer (some ⟨g, 0, none⟩)) := hV 1 (by decide)
        have e2 : x 2 = (.pointer (some ⟨g, 0, none⟩)) := hV 2 (by decide)
        have e3 : x 3 = (.pointer (some ⟨g, 0, none⟩)) := hV 3 (by decide)
        have e4 : x 4 = (.slice (some ⟨gb, ob, none⟩) nb cb) := hV 4 (by decide)
        have e5 : x 5 = (.pointer (some ⟨g, 0, none⟩)) := hV 5 (by decide)
        have e6 : x 6 = (.pointer (some ⟨g, 0, none⟩)) := hV 6 (by decide)
        have e7 : x 7 = (.pointer (some ⟨g, 1, none⟩)) := hV 7 (by decide)
        have e8 : x 8 = (.int .i64 (pl)) := hV 8 (by decide)
        obtain ⟨q0, q1, q2⟩ := hS.1.three; have qb := hS.2.1
        go_simp
        exact hK.out _ _ _ rfl rfl rfl (Below.refl _ _)
      simp only [List.setIfInBounds_toArray, List.set_cons_zero, List.set_cons_succ]
      refine obs_step (Eq.trans (by simp only [List.getElem?_toArray, List.getElem?_cons_succ, List.getElem?_cons_zero]; exact rfl) rfl) rfl (fun w' hS hV K hK => ?_) ?_
      · have e1 : x 1 = (.pointer (some ⟨g, 0, none⟩)) := hV 1 (by decide)
        have e2 : x 2 = (.pointer (some ⟨g, 0, none⟩)) := hV 2 (by decide)
        have e3 : x 3 = (.pointer (some ⟨g, 0, none⟩)) := hV 3 (by decide)
        have e4 : x 4 = (.slice (some ⟨gb, ob, none⟩) nb cb) := hV 4 (by decide)
        have e5 : x 5 = (.pointer (some ⟨g, 0, none⟩)) := hV 5 (by decide)
        have e6 : x 6 = (.pointer (some ⟨g, 0, none⟩)) := hV 6 (by decide)
        have e7 : x 7 = (.pointer (some ⟨g, 1, none⟩)) := hV 7 (by decide)
        have e8 : x 8 = (.int .i64 (pl)) := hV 8 (by decide)
        have e9 : x 9 = (.pointer (some ⟨gb, ob + pl, none⟩)) := hV 9 (by decide)
        obtain ⟨q0, q1, q2⟩ := hS.1.three; have qb := hS.2.1
        go_simp
        exact hK.out _ _ _ rfl rfl rfl (Below.refl _ _)
      simp only [List.setIfInBounds_toArray, List.set_cons_zero, List.set_cons_succ]
      refine obs_step (Eq.trans (by simp only [List.getElem?_toArray, List.getElem?_cons_succ, List.getElem?_cons_zero]; exact rfl) rfl) rfl (fun w' hS hV K hK => ?_) ?_
      · have e1 : x 1 = (.pointer (some ⟨g, 0, none⟩)) := hV 1 (by decide)
        have e2 : x 2 = (.pointer (some ⟨g, 0, none⟩)) := hV 2 (by decide)
        have e3 : x 3 = (.pointer (some ⟨g, 0, none⟩)) := hV 3 (by decide)
        have e4 : x 4 = (.slice (some ⟨gb, ob, none⟩) nb cb) := hV 4 (by decide)
        have e5 : x 5 = (.pointer (some ⟨g, 0, none⟩)) := hV 5 (by decide)
        have e6 : x 6 = (.pointer (some ⟨g, 0, none⟩)) := hV 6 (by decide)
        have e7 : x 7 = (.pointer (some ⟨g, 1, none⟩)) := hV 7 (by decide)
        have e8 : x 8 = (.int .i64 (pl)) := hV 8 (by decide)
        have e9 : x 9 = (.pointer (some ⟨gb, ob + pl, none⟩)) := hV 9 (by decide)
        have e10 : x 10 = (.int .u8 bb) := hV 10 (by decide)
        obtain ⟨q0, q1, q2⟩ := hS.1.three; have qb := hS.2.1
        go_simp
        exact hK.out _ _ _ rfl rfl rfl (Below.refl _ _)
      simp only [List.setIfInBounds_toArray, List.set_cons_zero, List.set_cons_succ]
      refine obs_step (Eq.trans (by simp only [List.getElem?_toArray, List.getElem?_cons_succ, List.getElem?_cons_zero]; exact rfl) rfl) rfl (fun w' hS hV K hK => ?_) ?_
      · have e0 : x 0 = (.int .i64 (X)) := hV 0 (by decide)
        have e1 : x 1 = (.pointer (some ⟨g, 0, none⟩)) := hV 1 (by decide)
        have e2 : x 2 = (.pointer (some ⟨g, 0, none⟩)) := hV 2 (by decide)
        have e3 : x 3 = (.pointer (some ⟨g, 0, none⟩)) := hV 3 (by decide)
        have e4 : x 4 = (.slice (some ⟨gb, ob, none⟩) nb cb) := hV 4 (by decide)
        have e5 : x 5 = (.pointer (some ⟨g, 0, none⟩)) := hV 5 (by decide)
        have e6 : x 6 = (.pointer (some ⟨g, 0, none⟩)) := hV 6 (by decide)
        have e7 : x 7 = (.pointer (some ⟨g, 1, none⟩)) := hV 7 (by decide)
        have e8 : x 8 = (.int .i64 (pl)) := hV 8 (by decide)
        have e9 : x 9 = (.pointer (some ⟨gb, ob + pl, none⟩)) := hV 9 (by decide)
        have e10 : x 10 = (.int .u8 bb) := hV 10 (by decide)
        have e11 : x 11 = (.int .i64 (bb)) := hV 11 (by decide)
        obtain ⟨q0, q1, q2⟩ := hS.1.three; have qb := hS.2.1
        go_simp
        exact hK.out _ _ _ rfl rfl rfl (Below.refl _ _)
      simp only [List.setIfInBounds_toArray, List.set_cons_zero, List.set_cons_succ]
      refine fun w' hS hV => ?_
      have e0 : x 0 = (.int .i64 (X)) := hV 0 (by decide)
      have e1 : x 1 = (.pointer (some ⟨g, 0, none⟩)) := hV 1 (by decide)
      have e2 : x 2 = (.pointer (some ⟨g, 0, none⟩)) := hV 2 (by decide)
      have e3 : x 3 = (.pointer (some ⟨g, 0, none⟩)) := hV 3 (by decide)
      have e4 : x 4 = (.slice (some ⟨gb, ob, none⟩) nb cb) := hV 4 (by decide)
      have e5 : x 5 = (.pointer (some ⟨g, 0, none⟩)) := hV 5 (by decide)
      have e6 : x 6 = (.pointer (some ⟨g, 0, none⟩)) := hV 6 (by decide)
      have e7 : x 7 = (.pointer (some ⟨g, 1, none⟩)) := hV 7 (by decide)
      have e8 : x 8 = (.int .i64 (pl)) := hV 8 (by decide)
      have e9 : x 9 = (.pointer (some ⟨gb, ob + pl, none⟩)) := hV 9 (by decide)
      have e10 : x 10 = (.int .u8 bb) := hV 10 (by decide)
      have e11 : x 11 = (.int .i64 (bb)) := hV 11 (by decide)
      have e12 : x 12 = (.int .i64 (X + bb)) := hV 12 (by decide)
      simp only [e0, e1, e2, e3, e4, e5, e6, e7, e8, e9, e10, e11, e12]
      clear e0 e1 e2 e3 e4 e5 e6 e7 e8 e9 e10 e11 e12
      refine any_one (j := 13) (by kernel_rfl) (Eq.trans (by simp only [List.getElem?_toArray, List.getElem?_cons_succ, List.getElem?_cons_zero]; exact rfl) rfl) (fun K hK => ?_)
      go_simp
      refine hK.out _ _ (wpAny_done (by kernel_rfl) ?_ _)
      obtain ⟨w3, rfl⟩ : ∃ W, W = w' := ⟨_, rfl⟩
      obtain ⟨k3, hcb3, hb3⟩ := hS
      have HR3 := Lib.hid (HR2.out.below hb3)
      have HD3 := Lib.hid (HD2.out.trans (Dr.of_below HD2.out.s' hb3))
      obtain ⟨hd4, k4, r4⟩ := Dr.set k3 HR3.out HBS.out hpl hnb HBG.out 1 (.int .i64 ((pl + 1 : Nat) : Int)) (pl' := pl + 1) (h' := H) (by simp) hpn
      have HD4 := Lib.hid (HD3.out.trans hd4)
      have q1 : w3.cell? ⟨g, 1, none⟩ = some (.int .i64 pl) := k3.cell 1
      have f1 := k3.frozen 1
      clear k2 hcb2 hb3 hd4 k4 r4
      go_wp2
      go_ret
      refine ⟨(X + bb) % n, rfl, Int.emod_nonneg _ hN2, fun hn => Int.emod_lt_of_pos _ (by omega), ?_⟩
      first
        | exact HD4.out
        | (rw [W5]; exact HD4.out)
    · have dl : decide ((pl : Int) < (nb : Int)) = false := by simp; omega
      have T1 := Int.tmod_eq_emod_of_nonneg (b := n) (show 0 ≤ X by omega)
      clear hbs r1
      go_wp2
      refine wp_obs 10 [[], [0], [0, 1], [0, 1, 2], [], [4], [4, 5], [4, 5, 6], [4, 5, 6, 7], [0, 1, 2, 3, 4, 5, 6, 7, 8]] [VIs (.pointer (some ⟨g, 0, none⟩)), VIs (.pointer (some ⟨g, 0, none⟩)), VIs (.pointer (some ⟨g, 1, none⟩)), VIs (.int .i64 (pl)), VIs (.pointer (some ⟨g, 0, none⟩)), VIs (.pointer (some ⟨g, 0, none⟩)), VIs (.pointer (some ⟨g, 0, none⟩)), VIs (.slice B nb cb), VIs (.int .i64 (nb)), VIs (.bool false)] (fun w' => Blk w' g 99 #[.slice B nb cb, .int .i64 pl, .int .u64 H] ∧ Below w1.heap.size w1 w') (by kernel_rfl) (by kernel_rfl) (fun _ _ h hb => ⟨h.1.below hb h.1.lt, h.2.trans (hb.mono h.2.size)⟩) (⟨k1.drew, (Below.refl _ _).drew⟩) (fun x => ?_)
      refine obs_step (Eq.trans (by simp only [List.getElem?_toArray, List.getElem?_cons_zero]; exact rfl) rfl) rfl (fun w' hS hV K hK => ?_) ?_
      · obtain ⟨q0, q1, q2⟩ := hS.1.three
        go_simp
        exact hK.out _ _ _ rfl rfl rfl (Below.refl _ _)
      simp only [List.setIfInBounds_toArray, List.set_cons_zero, List.set_cons_succ]
      refine obs_step (Eq.trans (by simp only [List.getElem?_toArray, List.getElem?_cons_succ, List.getElem?_cons_zero]; exact rfl) rfl) rfl (fun w' hS hV K hK => ?_) ?_
      · have e0 : x 0 = (.pointer (some ⟨g, 0, none⟩)) := hV 0 (by decide)
        obtain ⟨q0, q1, q2⟩ := hS.1.three
        go_simp
        exact hK.out _ _ _ rfl rfl rfl (Below.refl _ _)
      simp only [List.setIfInBounds_toArray, List.set_cons_zero, List.set_cons_succ]
      refine obs_step (Eq.trans (by simp only [List.getElem?_toArray, List.getElem?_cons_succ, List.getElem?_cons_zero]; exact rfl) rfl) rfl (fun w' hS hV K hK => ?_) ?_
      · have e0 : x 0 = (.pointer (some ⟨g, 0, none⟩)) := hV 0 (by decide)
        have e1 : x 1 = (.pointer (some ⟨g, 0, none⟩)) := hV 1 (by decide)
        obtain ⟨q0, q1, q2⟩ := hS.1.three
        go_simp
        exact hK.out _ _ _ rfl rfl rfl (Below.refl _ _)
      simp only [List.setIfInBounds_toArray, List.set_cons_zero, List.set_cons_succ]
      refine obs_step (Eq.trans (by simp only [List.getElem?_toArray, List.getElem?_cons_succ, List.getElem?_cons_zero]; exact rfl) rfl) rfl (fun w' hS hV K hK => ?_) ?_
      · have e0 : x 0 = (.pointer (some ⟨g, 0, none⟩)) := hV 0 (by decide)
        have e1 : x 1 = (.pointer (some ⟨g, 0, none⟩)) := hV 1 (by decide)
        have e2 : x 2 = (.pointer (some ⟨g, 1, none⟩)) := hV 2 (by decide)
        obtain ⟨q0, q1, q2⟩ := hS.1.three
        go_simp
        exact hK.out _ _ _ rfl rfl rfl (Below.refl _ _)
      simp only [List.setIfInBounds_toArray, List.set_cons_zero, List.set_cons_succ]
      refine obs_step (Eq.trans (by simp only [List.getElem?_toArray, List.getElem?_cons_succ, List.getElem?_cons_zero]; exact rfl) rfl) rfl (fun w' hS hV K hK => ?_) ?_
      · obtain ⟨q0, q1, q2⟩ := hS.1.three
        go_simp
        exact hK.out _ _ _ rfl rfl rfl (Below.refl _ _)
      simp only [List.setIfInBounds_toArray, List.set_cons_zero, List.set_cons_succ]
      refine obs_step (Eq.trans (by simp only [List.getElem?_toArray, List.getElem?_cons_succ, List.getElem?_cons_zero]; exact rfl) rfl) rfl (fun w' hS hV K hK => ?_) ?_
      · have e4 : x 4 = (.pointer (some ⟨g, 0, none⟩)) := hV 4 (by decide)
        obtain ⟨q0, q1, q2⟩ := hS.1.three
        go_simp
        exact hK.out _ _ _ rfl rfl rfl (Below.refl _ _)
      simp only [List.setIfInBounds_toArray, List.set_cons_zero, List.set_cons_succ]
      refine obs_step (Eq.trans (by simp only [List.getElem?_toArray, List.getElem?_cons_succ, List.getElem?_cons_zero]; exact rfl) rfl) rfl (fun w' hS hV K hK => ?_) ?_
      · have e4 : x 4 = (.pointer (some ⟨g, 0, none⟩)) := hV 4 (by decide)
        have e5 : x 5 = (.pointer (some ⟨g, 0, none⟩)) := hV 5 (by decide)
        obtain ⟨q0, q1, q2⟩ := hS.1.three
        go_simp
        exact hK.out _ _ _ rfl rfl rfl (Below.refl _ _)
      simp only [List.setIfInBounds_toArray, List.set_cons_zero, List.set_cons_succ]
      refine obs_step (Eq.trans (by simp only [List.getElem?_toArray, List.getElem?_cons_succ, List.getElem?_cons_zero]; exact rfl) rfl) rfl (fun w' hS hV K hK => ?_) ?_
      · have e4 : x 4 = (.pointer (some ⟨g, 0, none⟩)) := hV 4 (by decide)
        have e5 : x 5 = (.pointer (some ⟨g, 0, none⟩)) := hV 5 (by decide)
        have e6 : x 6 = (.pointer (some ⟨g, 0, none⟩)) := hV 6 (by decide)
        obtain ⟨q0, q1, q2⟩ := hS.1.three
        go_simp
        exact hK.out _ _ _ rfl rfl rfl (Below.refl _ _)
      simp only [List.setIfInBounds_toArray, List.set_cons_zero, List.set_cons_succ]
      refine obs_step (Eq.trans (by simp only [List.getElem?_toArray, List.getElem?_cons_succ, List.getElem?_cons_zero]; exact rfl) rfl) rfl (fun w' hS hV K hK => ?_) ?_
      · have e4 : x 4 = (.pointer (some ⟨g, 0, none⟩)) := hV 4 (by decide)
        have e5 : x 5 = (.pointer (some ⟨g, 0, none⟩)) := hV 5 (by decide)
        have e6 : x 6 = (.pointer (some ⟨g, 0, none⟩)) := hV 6 (by decide)
        have e7 : x 7 = (.slice B nb cb) := hV 7 (by decide)
        obtain ⟨q0, q1, q2⟩ := hS.1.three
        go_simp
        exact hK.out _ _ _ rfl rfl rfl (Below.refl _ _)
      simp only [List.setIfInBounds_toArray, List.set_cons_zero, List.set_cons_succ]
      refine obs_step (Eq.trans (by simp only [List.getElem?_toArray, List.getElem?_cons_succ, List.getElem?_cons_zero]; exact rfl) rfl) rfl (fun w' hS hV K hK => ?_) ?_
      · have e0 : x 0 = (.pointer (some ⟨g, 0, none⟩)) := hV 0 (by decide)
        have e1 : x 1 = (.pointer (some ⟨g, 0, none⟩)) := hV 1 (by decide)
        have e2 : x 2 = (.pointer (some ⟨g, 1, none⟩)) := hV 2 (by decide)
        have e3 : x 3 = (.int .i64 (pl)) := hV 3 (by decide)
        have e4 : x 4 = (.pointer (some ⟨g, 0, none⟩)) := hV 4 (by decide)
        have e5 : x 5 = (.pointer (some ⟨g, 0, none⟩)) := hV 5 (by decide)
        have e6 : x 6 = (.pointer (some ⟨g, 0, none⟩)) := hV 6 (by decide)
        have e7 : x 7 = (.slice B nb cb) := hV 7 (by decide)
        have e8 : x 8 = (.int .i64 (nb)) := hV 8 (by decide)
        obtain ⟨q0, q1, q2⟩ := hS.1.three
        go_simp
        exact hK.out _ _ _ rfl rfl rfl (Below.refl _ _)
      simp only [List.setIfInBounds_toArray, List.set_cons_zero, List.set_cons_succ]
      refine fun w' hS hV => ?_
      have e0 : x 0 = (.pointer (some ⟨g, 0, none⟩)) := hV 0 (by decide)
      have e1 : x 1 = (.pointer (some ⟨g, 0, none⟩)) := hV 1 (by decide)
      have e2 : x 2 = (.pointer (some ⟨g, 1, none⟩)) := hV 2 (by decide)
      have e3 : x 3 = (.int .i64 (pl)) := hV 3 (by decide)
      have e4 : x 4 = (.pointer (some ⟨g, 0, none⟩)) := hV 4 (by decide)
      have e5 : x 5 = (.pointer (some ⟨g, 0, none⟩)) := hV 5 (by decide)
      have e6 : x 6 = (.pointer (some ⟨g, 0, none⟩)) := hV 6 (by decide)
      have e7 : x 7 = (.slice B nb cb) := hV 7 (by decide)
      have e8 : x 8 = (.int .i64 (nb)) := hV 8 (by decide)
      have e9 : x 9 = (.bool false) := hV 9 (by decide)
      simp only [e0, e1, e2, e3, e4, e5, e6, e7, e8, e9]
      clear e0 e1 e2 e3 e4 e5 e6 e7 e8 e9
      refine wpAny_done (by kernel_rfl) ?_ _
      obtain ⟨w2, rfl⟩ : ∃ W, W = w' := ⟨_, rfl⟩
      obtain ⟨k2, hb2⟩ := hS
      have HD2 := Lib.hid (HD.out.trans (Dr.of_below HD.out.s' hb2))
      clear k1 hb2 k2
      go_wp2
      go_ret
      exact ⟨X % n, rfl, Int.emod_nonneg _ hN2, fun hn => Int.emod_lt_of_pos _ (by omega), HD2.out⟩
end Go.Proofs.YtggigolkncckoaaGreat
