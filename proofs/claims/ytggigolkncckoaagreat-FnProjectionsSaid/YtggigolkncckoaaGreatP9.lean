/-
  LawFnProjections: part 9 of the texts that the proof needs. No condition.
-/
import Derived.Test.YtggigolkncckoaaGreatP8
namespace Go.Proofs.YtggigolkncckoaaGreat
open Go.RowKit
/-- The square of a blade: the number of 1 of its product with itself. -/
def sqL (P : Int) (sq xs : List Int) : Int := (mulL P sq xs xs).getD 0 0
theorem sqL_small {P : Int} (hp : 2 ≤ P) (sq xs : List Int) : 0 ≤ sqL P sq xs ∧ sqL P sq xs < P := NumsL.getD (mulL_nums (by omega) sq xs xs) (by omega) 0
/-- The code of an invertible blade and a vector. -/
def codeLi (P : Int) (sq xs v : List Int) : Int := if codeLv P sq xs v = 0 then (if sqL P sq xs = 0 then 5 else 0) else codeLv P sq xs v
theorem codeLi_zero {P : Int} {sq xs v : List Int} (h : codeLi P sq xs v = 0) : codeLv P sq xs v = 0 ∧ ¬ sqL P sq xs = 0 := by
  unfold codeLi at h
  by_cases h1 : codeLv P sq xs v = 0
  · rw [if_pos h1] at h
    by_cases h2 : sqL P sq xs = 0
    · rw [if_pos h2] at h; omega
    · exact ⟨h1, h2⟩
  · rw [if_neg h1] at h; exact absurd h h1
theorem codeLi_eq {P : Int} {sq xs v : List Int} (h : codeLv P sq xs v = 0) : codeLi P sq xs v = if sqL P sq xs = 0 then 5 else 0 := by unfold codeLi; rw [if_pos h]
theorem codeLi_ne {P : Int} {sq xs v : List Int} (h : ¬ codeLv P sq xs v = 0) : codeLi P sq xs v = codeLv P sq xs v := by unfold codeLi; rw [if_neg h]
/-- The projection of a vector. -/
def projL (P : Int) (sq : List Int) (n : Nat) (xs v : List Int) : List Int := partL n (mulL P sq (contrL P sq (vecTo n v n) xs) (scaleL P xs (invF P (sqL P sq xs))))
theorem projL_len (P : Int) (sq : List Int) (n : Nat) (xs v : List Int) : (projL P sq n xs v).length = n := partL_len _ _
theorem projL_nums {P : Int} (hp : 2 ≤ P) (sq : List Int) (n : Nat) (xs v : List Int) : NumsL P (projL P sq n xs v) := partL_nums (by omega) n _ (mulL_nums (by omega) _ _ _)
/-- ProjectOnto. -/
def prR (P : Int) (sq : List Int) (xs : List Int) (v : List Int) : List Int × Int := if codeLi P sq xs v = 0 then (projL P sq sq.length xs v, 0) else ([], codeLi P sq xs v)
theorem prR_ok {P : Int} {sq xs v : List Int} (h : codeLi P sq xs v = 0) : prR P sq xs v = (projL P sq sq.length xs v, 0) := by unfold prR; rw [if_pos h]
theorem prR_bad {P : Int} {sq xs v : List Int} (h : ¬ codeLi P sq xs v = 0) : prR P sq xs v = ([], codeLi P sq xs v) := by unfold prR; rw [if_neg h]
set_option maxHeartbeats 6400000 in
set_option maxRecDepth 8000 in
theorem projection_any (P : Int) (A : Option Addr) (n c : Nat) (sq : List Int) (X : Option Addr) (m cx : Nat) (xs : List Int) (Y : Option Addr) (l cy : Nat) (ys : List Int) (w : World) (hn : n ≤ 1048576) (hm : m ≤ 1048576) (hl : l ≤ 1048576) (ha : Rd w A n (ints sq)) (hx : Rd w X m (ints xs)) (hcx : m ≤ cx) (hy : Rd w Y l (ints ys)) (_hcy : l ≤ cy) :
    Calls Tryz.prog 246 #[.agg #[.int .i64 P, .slice A n c], .slice X m cx, .slice Y l cy] w fun e w' => ∃ (A' : Option Addr) (k c' : Nat), e = .returned (.tuple #[.slice A' k c', .int .i64 (prR P sq xs ys).2]) ∧ MkI w w' A' k c' (prR P sq xs ys).1 := by
  have hB0 : Below w.heap.size w (w.alloc (.cells #[.int .i64 P, .slice A n c] 26)) := (Below.refl _ _).alloc (Nat.le_refl _) _
  have k0 : Blk (w.alloc (.cells #[.int .i64 P, .slice A n c] 26)) w.heap.size 26 #[.int .i64 P, .slice A n c] := Blk.new _ _ _
  have hB1 : Below w.heap.size w ((w.alloc (.cells #[.int .i64 P, .slice A n c] 26)).alloc (.cells #[.slice X m cx] 24)) := hB0.alloc (by simp) _
  have k1 : Blk ((w.alloc (.cells #[.int .i64 P, .slice A n c] 26)).alloc (.cells #[.slice X m cx] 24)) w.heap.size 26 #[.int .i64 P, .slice A n c] := k0.alloc _
  have hreg := checkMultis_any P A (some ⟨w.heap.size + 1, 0, none⟩) n c 1 1 sq [xs] ((w.alloc (.cells #[.int .i64 P, .slice A n c] 26)).alloc (.cells #[.slice X m cx] 24)) hn (by omega) (ha.below hB1) (rdII_one' (Blk.newAt3 (by simp)) (hx.below hB1) hcx) (all_one (by rw [hx.lenI]; exact hm))
  by_cases hcM : codeM P sq [xs] = 0
  · have HCV := Lib.hid (codeLv_eq (v := ys) hcM)
    rw [hcM] at hreg
    obtain ⟨HP, hp, hp2, hd1, hd2, hs0, hms⟩ := codeM_spec3 hcM
    have hsl := ha.lenI
    obtain ⟨hx1, hxs0⟩ := hms xs (by simp)
    have hmx : m = pw n := by rw [← hx.lenI, hx1, hsl]
    subst hmx
    have HSL := Lib.hid hsl
    have HS0 := Lib.hid hs0
    have HXS := Lib.hid hxs0
    have hn6 : n ≤ 6 := by omega
    have hn0 : 0 < n := by omega
    clear hms hx1 hs0 hxs0 hd1 hd2
    clear hcM
    have hvec := fun w' (hb : Below w.heap.size w w') => isVector_any P A Y n c l cy sq ys w' hn hsl hl (by omega) hp2 (hy.below hb)
    cases hve : isVe P sq ys
    · have HC5 : Hid (¬ codeLi P sq xs ys = 0 ∧ codeLi P sq xs ys = 2) := Lib.hid (by
        have h1 : codeLv P sq xs ys = 2 := by rw [HCV.out, hve]; simp
        rw [codeLi_ne (by rw [h1]; decide), h1]; decide)
      rw [hve] at hvec
      clear hve hsl
      go_enter Tryz.func246, Tryz.ntmps246
      go_wp2_with fail
      refine hreg.mono ?_
      rintro e w2 ⟨rfl, hb2⟩
      have hB2 := hB1.trans (hb2.mono hB1.size)
      have k2 := k1.below hb2 k1.lt
      obtain ⟨q0, q1⟩ := k2.two
      clear k0 hB0 k1 hB1 hb2
      go_wp2_with fail
      refine (hvec _ hB2).mono ?_
      rintro e w3 ⟨rfl, hb3⟩
      go_wp2
      go_ret2
      exact noRow3 (by rw [prR_bad HC5.out.1, HC5.out.2]) (hB2.trans (hb3.mono hB2.size))
    · obtain ⟨hly0, hys0⟩ := isVe_spec3 hve
      have hly : n = l := by rw [← hy.lenI, hly0, hsl]
      subst hly
      have HYS := Lib.hid hys0
      have hbl := fun w' (hb : Below w.heap.size w w') => isBlade_any P A n c sq X cx xs w' HP hn6 hn0 (ha.below hb) HS0.out (hx.below hb) HXS.out
      have HVE := Lib.hid hve
      rw [hve] at hvec
      clear hve hsl hly0 hys0
      cases hbb : isBl P sq n xs
      · have HC5 : Hid (¬ codeLi P sq xs ys = 0 ∧ codeLi P sq xs ys = 5) := Lib.hid (by
          have h1 : codeLv P sq xs ys = 5 := by rw [HCV.out, HVE.out, HSL.out, hbb]; simp
          rw [codeLi_ne (by rw [h1]; decide), h1]; decide)
        rw [hbb] at hbl
        clear hbb
        go_enter Tryz.func246, Tryz.ntmps246
        go_wp2_with fail
        refine hreg.mono ?_
        rintro e w2 ⟨rfl, hb2⟩
        have hB2 := hB1.trans (hb2.mono hB1.size)
        have k2 := k1.below hb2 k1.lt
        obtain ⟨q0, q1⟩ := k2.two
        clear k0 hB0 k1 hB1 hb2
        go_wp2_with fail
        refine (hvec _ hB2).mono ?_
        rintro e w3 ⟨rfl, hb3⟩
        have hB3 := hB2.trans (hb3.mono hB2.size)
        have k3 := k2.below hb3 k2.lt
        obtain ⟨q0, q1⟩ := k3.two
        clear k2 hB2 hb3 hvec
        go_wp2_with fail
        refine (hbl _ hB3).mono ?_
        rintro e w4 ⟨rfl, hb4⟩
        go_wp2
        go_ret2
        exact noRow3 (by rw [prR_bad HC5.out.1, HC5.out.2]) (hB3.trans (hb4.mono hB3.size))
      · have HR0 : Hid (codeLv P sq xs ys = 0) := Lib.hid (by rw [HCV.out, HVE.out, HSL.out, hbb]; simp)
        rw [hbb] at hbl
        clear hbb
        have hsqr := fun w' (h : Below w.heap.size w w') => bladeSquare_any P A n c sq X cx xs w' hp hp2 hn6 (ha.below h) HS0.out (hx.below h) HXS.out hcx
        obtain ⟨vq, hvq⟩ : ∃ v, v = sqL P sq xs := ⟨_, rfl⟩
        have HVQ := Lib.hid hvq
        have hvqd : vq = (mulL P sq xs xs).getD 0 0 := hvq
        rw [← hvqd] at hsqr
        obtain ⟨hv1, hv2⟩ := sqL_small hp sq xs
        rw [← hvq] at hv1 hv2
        clear hvq hvqd
        by_cases hv0 : vq = 0
        · have HC5 : Hid (¬ codeLi P sq xs ys = 0 ∧ codeLi P sq xs ys = 5) := Lib.hid (by rw [codeLi_eq HR0.out, if_pos (HVQ.out.symm.trans hv0)]; decide)
          subst hv0
          go_enter Tryz.func246, Tryz.ntmps246
          go_wp2_with fail
          refine hreg.mono ?_
          rintro e w2 ⟨rfl, hb2⟩
          have hB2 := hB1.trans (hb2.mono hB1.size)
          have k2 := k1.below hb2 k1.lt
          obtain ⟨q0, q1⟩ := k2.two
          clear k0 hB0 k1 hB1 hb2
          go_wp2_with fail
          refine (hvec _ hB2).mono ?_
          rintro e w3 ⟨rfl, hb3⟩
          have hB3 := hB2.trans (hb3.mono hB2.size)
          have k3 := k2.below hb3 k2.lt
          obtain ⟨q0, q1⟩ := k3.two
          clear k2 hB2 hb3 hvec
          go_wp2_with fail
          refine (hbl _ hB3).mono ?_
          rintro e w4 ⟨rfl, hb4⟩
          have hB4 := hB3.trans (hb4.mono hB3.size)
          have k4 := k3.below hb4 k3.lt
          obtain ⟨q0, q1⟩ := k4.two
          clear k3 hB3 hb4 hbl
          go_wp2_with fail
          refine (hsqr _ hB4).mono ?_
          rintro e w5 ⟨rfl, hb5⟩
          go_wp2
          go_ret2
          exact noRow3 (by rw [prR_bad HC5.out.1, HC5.out.2]) (hB4.trans (hb5.mono hB4.size))
        · have HCO : Hid (prR P sq xs ys = (projL P sq n xs ys, 0)) := Lib.hid (by rw [prR_ok (by rw [codeLi_eq HR0.out, if_neg (fun e => hv0 (HVQ.out.trans e))]), HSL.out])
          have hv0' : (vq == 0) = false := by simp; exact hv0
          have HSQR := Lib.hid hsqr
          have HXL := Lib.hid hx.lenI
          have HIV := Lib.hid (invF_small hp vq)
          have hpwl : pw n ≤ 64 := pw_le hn6
          clear hv0
          go_enter Tryz.func246, Tryz.ntmps246
          go_wp2_with fail
          refine hreg.mono ?_
          rintro e w2 ⟨rfl, hb2⟩
          have hB2 := hB1.trans (hb2.mono hB1.size)
          have k2 := k1.below hb2 k1.lt
          obtain ⟨q0, q1⟩ := k2.two
          clear k0 hB0 k1 hB1 hb2
          go_wp2_with fail
          refine (hvec _ hB2).mono ?_
          rintro e w3 ⟨rfl, hb3⟩
          have hB3 := hB2.trans (hb3.mono hB2.size)
          have k3 := k2.below hb3 k2.lt
          obtain ⟨q0, q1⟩ := k3.two
          clear k2 hB2 hb3 hvec
          go_wp2_with fail
          refine (hbl _ hB3).mono ?_
          rintro e w4 ⟨rfl, hb4⟩
          have hB4 := hB3.trans (hb4.mono hB3.size)
          have k4 := k3.below hb4 k3.lt
          obtain ⟨q0, q1⟩ := k4.two
          clear k3 hB3 hb4 hbl
          go_wp2_with fail
          refine (hsqr _ hB4).mono ?_
          rintro e w5 ⟨rfl, hb5⟩
          have hB5 := hB4.trans (hb5.mono hB4.size)
          have k5 := k4.below hb5 k4.lt
          obtain ⟨q0, q1⟩ := k5.two
          clear k4 hB4 hb5 hsqr
          have HSQ2 := Lib.hid fun (w' : World) (h : Below w5.heap.size w5 w') => HSQR.out w' (hB5.trans (h.mono hB5.size))
          have HPJ : Hid (projL P sq n xs ys = partL n (mulL P sq (contrL P sq (vecTo n ys n) xs) (scaleL P xs (invF P vq)))) := Lib.hid (by unfold projL; rw [← HVQ.out])
          have HSCA := Lib.hid fun (w' : World) (h : Below w5.heap.size w5 w') => scaled_any P X (pw n) cx (invF P vq) xs w' hp hp2 (by omega) ((hx.below hB5).below h) HXS.out (by have := HIV.out; omega) (by have := HIV.out; omega)
          have HVEC := Lib.hid fun (w' : World) (h : Below w5.heap.size w5 w') => vector_any P A n c Y cy ys w' (by omega) ((hy.below hB5).below h)
          have HCON := Lib.hid fun (w' : World) (B : Option Addr) (d : Nat) (h : Below w5.heap.size w5 w') (hb : Rd w' B (pw n) (ints (vecTo n ys n))) => contract_any P A n c sq B d (vecTo n ys n) X cx xs w' hp hp2 hn6 ((ha.below hB5).below h) HS0.out hb (vecTo_nums (by omega) n _ HYS.out n) ((hx.below hB5).below h) HXS.out
          have HTIM := Lib.hid fun (w' : World) (B : Option Addr) (d : Nat) (h : Below w5.heap.size w5 w') (hb : RdII w' B 2 [contrL P sq (vecTo n ys n) xs, scaleL P xs (invF P vq)]) => times_any P A n c sq B 2 d [contrL P sq (vecTo n ys n) xs, scaleL P xs (invF P vq)] w' hp hp2 hn6 (by omega) ((ha.below hB5).below h) HS0.out hb (all_two ⟨contrL_nums (by omega) _ _ _, by rw [contrL_len, vecTo_len]⟩ ⟨scaleL_nums (by omega) _ _, by rw [scaleL_len, HXL.out]⟩)
          have HTT := Lib.hid (timesL_two P sq n (contrL P sq (vecTo n ys n) xs) (scaleL P xs (invF P vq)) (by rw [contrL_len, vecTo_len]) (contrL_nums (by omega) _ _ _))
          rw [HTT.out] at HTIM
          have HPAR := Lib.hid fun (w' : World) (B : Option Addr) (d : Nat) (hb : Rd w' B (pw n) (ints (mulL P sq (contrL P sq (vecTo n ys n) xs) (scaleL P xs (invF P vq))))) => vectorPart_any P A n c B d (mulL P sq (contrL P sq (vecTo n ys n) xs) (scaleL P xs (invF P vq))) w' (by omega) hb
          obtain ⟨PL, hPL⟩ : ∃ L, L = partL n (mulL P sq (contrL P sq (vecTo n ys n) xs) (scaleL P xs (invF P vq))) := ⟨_, rfl⟩
          have HPL := Lib.hid hPL
          rw [← hPL] at HPAR
          obtain ⟨ML, hML⟩ : ∃ L, L = mulL P sq (contrL P sq (vecTo n ys n) xs) (scaleL P xs (invF P vq)) := ⟨_, rfl⟩
          rw [← hML] at HPAR HTIM
          obtain ⟨CL, hCL⟩ : ∃ L, L = contrL P sq (vecTo n ys n) xs := ⟨_, rfl⟩
          rw [← hCL] at HTIM HCON
          obtain ⟨VL, hVL⟩ : ∃ L, L = vecTo n ys n := ⟨_, rfl⟩
          rw [← hVL] at HCON HVEC
          obtain ⟨IL, hIL⟩ : ∃ L, L = scaleL P xs (invF P vq) := ⟨_, rfl⟩
          rw [← hIL] at HTIM HSCA
          clear hPL hML hCL hVL hIL HTT
          go_wp2
          refine wp_obs 11 [[], [0], [], [], [3], [], [], [5, 6], [3, 4, 5, 6, 7], [0, 1, 2, 3, 4, 5, 6, 7, 8], [0, 1, 2, 3, 4, 5, 6, 7, 8, 9]] [VIs (.agg #[.int .i64 P, .slice A n c]), VIs (.int .i64 (P)), VIs (.slice X (pw n) cx), VIs (.agg #[.int .i64 P, .slice A n c]), VIs (.int .i64 (P)), VIs (.agg #[.int .i64 P, .slice A n c]), VIs (.slice X (pw n) cx), VIs (.int .i64 (vq)), VIs (.int .i64 (invF P vq)), VSl w5 (pw n) IL, VSl w5 (pw n) IL] (fun w' => Blk w' w.heap.size 26 #[.int .i64 P, .slice A n c] ∧ Below w5.heap.size w5 w') (by kernel_rfl) (by kernel_rfl) (fun _ _ h hb => ⟨h.1.below hb h.1.lt, h.2.trans (hb.mono h.2.size)⟩) (⟨k5.drew, (Below.refl _ _).drew⟩) (fun x => ?_)
          refine obs_step (Eq.trans (by simp only [List.getElem?_toArray, List.getElem?_cons_zero]; exact rfl) rfl) rfl (fun w' hS hV K hK => ?_) ?_
          · obtain ⟨q0, q1⟩ := hS.1.two
            go_simp
            exact hK.out _ _ _ rfl rfl rfl (Below.refl _ _)
          simp only [List.setIfInBounds_toArray, List.set_cons_zero, List.set_cons_succ]
          refine obs_step (Eq.trans (by simp only [List.getElem?_toArray, List.getElem?_cons_succ, List.getElem?_cons_zero]; exact rfl) rfl) rfl (fun w' hS hV K hK => ?_) ?_
          · have e0 : x 0 = (.agg #[.int .i64 P, .slice A n c]) := hV 0 (by decide)
            obtain ⟨q0, q1⟩ := hS.1.two
            go_simp
            refine (field_any _ _ _ _ _).mono ?_
            rintro e v1 ⟨rfl, hb⟩
            exact hK.out _ _ _ rfl rfl rfl hb
          simp only [List.setIfInBounds_toArray, List.set_cons_zero, List.set_cons_succ]
          refine obs_step (Eq.trans (by simp only [List.getElem?_toArray, List.getElem?_cons_succ, List.getElem?_cons_zero]; exact rfl) rfl) rfl (fun w' hS hV K hK => ?_) ?_
          · obtain ⟨q0, q1⟩ := hS.1.two
            go_simp
            exact hK.out _ _ _ rfl rfl rfl (Below.refl _ _)
          simp only [List.setIfInBounds_toArray, List.set_cons_zero, List.set_cons_succ]
          refine obs_step (Eq.trans (by simp only [List.getElem?_toArray, List.getElem?_cons_succ, List.getElem?_cons_zero]; exact rfl) rfl) rfl (fun w' hS hV K hK => ?_) ?_
          · obtain ⟨q0, q1⟩ := hS.1.two
            go_simp
            exact hK.out _ _ _ rfl rfl rfl (Below.refl _ _)
          simp only [List.setIfInBounds_toArray, List.set_cons_zero, List.set_cons_succ]
          refine obs_step (Eq.trans (by simp only [List.getElem?_toArray, List.getElem?_cons_succ, List.getElem?_cons_zero]; exact rfl) rfl) rfl (fun w' hS hV K hK => ?_) ?_
          · have e3 : x 3 = (.agg #[.int .i64 P, .slice A n c]) := hV 3 (by decide)
            obtain ⟨q0, q1⟩ := hS.1.two
            go_simp
            refine (field_any _ _ _ _ _).mono ?_
            rintro e v1 ⟨rfl, hb⟩
            exact hK.out _ _ _ rfl rfl rfl hb
          simp only [List.setIfInBounds_toArray, List.set_cons_zero, List.set_cons_succ]
          refine obs_step (Eq.trans (by simp only [List.getElem?_toArray, List.getElem?_cons_succ, List.getElem?_cons_zero]; exact rfl) rfl) rfl (fun w' hS hV K hK => ?_) ?_
          · obtain ⟨q0, q1⟩ := hS.1.two
            go_simp
            exact hK.out _ _ _ rfl rfl rfl (Below.refl _ _)
          simp only [List.setIfInBounds_toArray, List.set_cons_zero, List.set_cons_succ]
          refine obs_step (Eq.trans (by simp only [List.getElem?_toArray, List.getElem?_cons_succ, List.getElem?_cons_zero]; exact rfl) rfl) rfl (fun w' hS hV K hK => ?_) ?_
          · obtain ⟨q0, q1⟩ := hS.1.two
            go_simp
            exact hK.out _ _ _ rfl rfl rfl (Below.refl _ _)
          simp only [List.setIfInBounds_toArray, List.set_cons_zero, List.set_cons_succ]
          refine obs_step (Eq.trans (by simp only [List.getElem?_toArray, List.getElem?_cons_succ, List.getElem?_cons_zero]; exact rfl) rfl) rfl (fun w' hS hV K hK => ?_) ?_
          · have e5 : x 5 = (.agg #[.int .i64 P, .slice A n c]) := hV 5 (by decide)
            have e6 : x 6 = (.slice X (pw n) cx) := hV 6 (by decide)
            obtain ⟨q0, q1⟩ := hS.1.two
            go_simp
            refine (HSQ2.out _ hS.2).mono ?_
            rintro e v1 ⟨rfl, hb⟩
            exact hK.out _ _ _ rfl rfl rfl hb
          simp only [List.setIfInBounds_toArray, List.set_cons_zero, List.set_cons_succ]
          refine obs_step (Eq.trans (by simp only [List.getElem?_toArray, List.getElem?_cons_succ, List.getElem?_cons_zero]; exact rfl) rfl) rfl (fun w' hS hV K hK => ?_) ?_
          · have e3 : x 3 = (.agg #[.int .i64 P, .slice A n c]) := hV 3 (by decide)
            have e4 : x 4 = (.int .i64 (P)) := hV 4 (by decide)
            have e5 : x 5 = (.agg #[.int .i64 P, .slice A n c]) := hV 5 (by decide)
            have e6 : x 6 = (.slice X (pw n) cx) := hV 6 (by decide)
            have e7 : x 7 = (.int .i64 (vq)) := hV 7 (by decide)
            obtain ⟨q0, q1⟩ := hS.1.two
            go_simp
            refine (inv_any P vq _ hp hp2 hv1 hv2).mono ?_
            rintro e v1 ⟨rfl, rfl⟩
            exact hK.out _ _ _ rfl rfl rfl (Below.refl _ _)
          simp only [List.setIfInBounds_toArray, List.set_cons_zero, List.set_cons_succ]
          refine obs_step (Eq.trans (by simp only [List.getElem?_toArray, List.getElem?_cons_succ, List.getElem?_cons_zero]; exact rfl) rfl) rfl (fun w' hS hV K hK => ?_) ?_
          · have e0 : x 0 = (.agg #[.int .i64 P, .slice A n c]) := hV 0 (by decide)
            have e1 : x 1 = (.int .i64 (P)) := hV 1 (by decide)
            have e2 : x 2 = (.slice X (pw n) cx) := hV 2 (by decide)
            have e3 : x 3 = (.agg #[.int .i64 P, .slice A n c]) := hV 3 (by decide)
            have e4 : x 4 = (.int .i64 (P)) := hV 4 (by decide)
            have e5 : x 5 = (.agg #[.int .i64 P, .slice A n c]) := hV 5 (by decide)
            have e6 : x 6 = (.slice X (pw n) cx) := hV 6 (by decide)
            have e7 : x 7 = (.int .i64 (vq)) := hV 7 (by decide)
            have e8 : x 8 = (.int .i64 (invF P vq)) := hV 8 (by decide)
            obtain ⟨q0, q1⟩ := hS.1.two
            go_simp
            refine (HSCA.out _ hS.2).mono ?_
            rintro e v1 ⟨A2, c2, rfl, hM⟩
            exact hK.out _ _ _ rfl rfl ⟨_, _, rfl, hM.after hS.2⟩ hM.b
          simp only [List.setIfInBounds_toArray, List.set_cons_zero, List.set_cons_succ]
          refine obs_step (Eq.trans (by simp only [List.getElem?_toArray, List.getElem?_cons_succ, List.getElem?_cons_zero]; exact rfl) rfl) rfl (fun w' hS hV K hK => ?_) ?_
          · have e0 : x 0 = (.agg #[.int .i64 P, .slice A n c]) := hV 0 (by decide)
            have e1 : x 1 = (.int .i64 (P)) := hV 1 (by decide)
            have e2 : x 2 = (.slice X (pw n) cx) := hV 2 (by decide)
            have e3 : x 3 = (.agg #[.int .i64 P, .slice A n c]) := hV 3 (by decide)
            have e4 : x 4 = (.int .i64 (P)) := hV 4 (by decide)
            have e5 : x 5 = (.agg #[.int .i64 P, .slice A n c]) := hV 5 (by decide)
            have e6 : x 6 = (.slice X (pw n) cx) := hV 6 (by decide)
            have e7 : x 7 = (.int .i64 (vq)) := hV 7 (by decide)
            have e8 : x 8 = (.int .i64 (invF P vq)) := hV 8 (by decide)
            obtain ⟨A9, c9, e9, h9⟩ := hV 9 (by decide)
            obtain ⟨q0, q1⟩ := hS.1.two
            go_simp
            exact hK.out _ _ _ rfl rfl ⟨_, _, rfl, h9⟩ (Below.refl _ _)
          simp only [List.setIfInBounds_toArray, List.set_cons_zero, List.set_cons_succ]
          refine fun w' hS hV => ?_
          have e0 : x 0 = (.agg #[.int .i64 P, .slice A n c]) := hV 0 (by decide)
          have e1 : x 1 = (.int .i64 (P)) := hV 1 (by decide)
          have e2 : x 2 = (.slice X (pw n) cx) := hV 2 (by decide)
          have e3 : x 3 = (.agg #[.int .i64 P, .slice A n c]) := hV 3 (by decide)
          have e4 : x 4 = (.int .i64 (P)) := hV 4 (by decide)
          have e5 : x 5 = (.agg #[.int .i64 P, .slice A n c]) := hV 5 (by decide)
          have e6 : x 6 = (.slice X (pw n) cx) := hV 6 (by decide)
          have e7 : x 7 = (.int .i64 (vq)) := hV 7 (by decide)
          have e8 : x 8 = (.int .i64 (invF P vq)) := hV 8 (by decide)
          obtain ⟨A9, c9, e9, h9⟩ := hV 9 (by decide)
          obtain ⟨A10, c10, e10, h10⟩ := hV 10 (by decide)
          simp only [e0, e1, e2, e3, e4, e5, e6, e7, e8, e9, e10]
          clear e0 e1 e2 e3 e4 e5 e6 e7 e8 e9 e10
          refine wpAny_done (by kernel_rfl) ?_ _
          obtain ⟨w6, rfl⟩ : ∃ W, W = w' := ⟨_, rfl⟩
          have k6 := hS.1
          have hb56 := Lib.hid hS.2
          have hM6 := h10
          obtain ⟨q0, q1⟩ := k6.two
          clear hS
          go_wp2
          refine wp_obs 14 [[], [], [], [], [], [3, 4], [], [2, 3, 4, 5, 6], [], [2, 3, 4, 5, 6, 7, 8], [1, 2, 3, 4, 5, 6, 7, 8, 9], [0, 1, 2, 3, 4, 5, 6, 7, 8, 9, 10], [0, 1, 2, 3, 4, 5, 6, 7, 8, 9, 10, 11], []] [VIs (.agg #[.int .i64 P, .slice A n c]), VIs (.agg #[.int .i64 P, .slice A n c]), VIs (.agg #[.int .i64 P, .slice A n c]), VIs (.agg #[.int .i64 P, .slice A n c]), VIs (.slice Y n cy), VSl w6 (pw n) VL, VIs (.slice X (pw n) cx), VSl w6 (pw n) CL, VSl w5 (pw n) IL, VRow 2 [CL, IL], VSl w6 (pw n) ML, VSl w6 n PL, VSl w6 n PL, VIs (.int .i64 0)] (fun w' => Blk w' w.heap.size 26 #[.int .i64 P, .slice A n c] ∧ Below w6.heap.size w6 w') (by kernel_rfl) (by kernel_rfl) (fun _ _ h hb => ⟨h.1.below hb h.1.lt, h.2.trans (hb.mono h.2.size)⟩) (⟨k6.drew, (Below.refl _ _).drew⟩) (fun x => ?_)
          refine obs_step (Eq.trans (by simp only [List.getElem?_toArray, List.getElem?_cons_zero]; exact rfl) rfl) rfl (fun w' hS hV K hK => ?_) ?_
          · obtain ⟨q0, q1⟩ := hS.1.two
            go_simp
            exact hK.out _ _ _ rfl rfl rfl (Below.refl _ _)
          simp only [List.setIfInBounds_toArray, List.set_cons_zero, List.set_cons_succ]
          refine obs_step (Eq.trans (by simp only [List.getElem?_toArray, List.getElem?_cons_succ, List.getElem?_cons_zero]; exact rfl) rfl) rfl (fun w' hS hV K hK => ?_) ?_
          · obtain ⟨q0, q1⟩ := hS.1.two
            go_simp
            exact hK.out _ _ _ rfl rfl rfl (Below.refl _ _)
          simp only [List.setIfInBounds_toArray, List.set_cons_zero, List.set_cons_succ]
          refine obs_step (Eq.trans (by simp only [List.getElem?_toArray, List.getElem?_cons_succ, List.getElem?_cons_zero]; exact rfl) rfl) rfl (fun w' hS hV K hK => ?_) ?_
          · obtain ⟨q0, q1⟩ := hS.1.two
            go_simp
            exact hK.out _ _ _ rfl rfl rfl (Below.refl _ _)
          simp only [List.setIfInBounds_toArray, List.set_cons_zero, List.set_cons_succ]
          refine obs_step (Eq.trans (by simp only [List.getElem?_toArray, List.getElem?_cons_succ, List.getElem?_cons_zero]; exact rfl) rfl) rfl (fun w' hS hV K hK => ?_) ?_
          · obtain ⟨q0, q1⟩ := hS.1.two
            go_simp
            exact hK.out _ _ _ rfl rfl rfl (Below.refl _ _)
          simp only [List.setIfInBounds_toArray, List.set_cons_zero, List.set_cons_succ]
          refine obs_step (Eq.trans (by simp only [List.getElem?_toArray, List.getElem?_cons_succ, List.getElem?_cons_zero]; exact rfl) rfl) rfl (fun w' hS hV K hK => ?_) ?_
          · obtain ⟨q0, q1⟩ := hS.1.two
            go_simp
            exact hK.out _ _ _ rfl rfl rfl (Below.refl _ _)
          simp only [List.setIfInBounds_toArray, List.set_cons_zero, List.set_cons_succ]
          refine obs_step (Eq.trans (by simp only [List.getElem?_toArray, List.getElem?_cons_succ, List.getElem?_cons_zero]; exact rfl) rfl) rfl (fun w' hS hV K hK => ?_) ?_
          · have e3 : x 3 = (.agg #[.int .i64 P, .slice A n c]) := hV 3 (by decide)
            have e4 : x 4 = (.slice Y n cy) := hV 4 (by decide)
            obtain ⟨q0, q1⟩ := hS.1.two
            go_simp
            refine (HVEC.out _ (hb56.out.trans (hS.2.mono hb56.out.size))).mono ?_
            rintro e v1 ⟨A2, c2, rfl, hM⟩
            exact hK.out _ _ _ rfl rfl ⟨_, _, rfl, hM.after hS.2⟩ hM.b
          simp only [List.setIfInBounds_toArray, List.set_cons_zero, List.set_cons_succ]
          refine obs_step (Eq.trans (by simp only [List.getElem?_toArray, List.getElem?_cons_succ, List.getElem?_cons_zero]; exact rfl) rfl) rfl (fun w' hS hV K hK => ?_) ?_
          · obtain ⟨q0, q1⟩ := hS.1.two
            go_simp
            exact hK.out _ _ _ rfl rfl rfl (Below.refl _ _)
          simp only [List.setIfInBounds_toArray, List.set_cons_zero, List.set_cons_succ]
          refine obs_step (Eq.trans (by simp only [List.getElem?_toArray, List.getElem?_cons_succ, List.getElem?_cons_zero]; exact rfl) rfl) rfl (fun w' hS hV K hK => ?_) ?_
          · have e2 : x 2 = (.agg #[.int .i64 P, .slice A n c]) := hV 2 (by decide)
            have e3 : x 3 = (.agg #[.int .i64 P, .slice A n c]) := hV 3 (by decide)
            have e4 : x 4 = (.slice Y n cy) := hV 4 (by decide)
            obtain ⟨A5, c5, e5, h5⟩ := hV 5 (by decide)
            have e6 : x 6 = (.slice X (pw n) cx) := hV 6 (by decide)
            obtain ⟨q0, q1⟩ := hS.1.two
            go_simp
            refine (HCON.out _ _ _ (hb56.out.trans (hS.2.mono hb56.out.size)) h5.rd).mono ?_
            rintro e v1 ⟨A2, c2, rfl, hM⟩
            exact hK.out _ _ _ rfl rfl ⟨_, _, rfl, hM.after hS.2⟩ hM.b
          simp only [List.setIfInBounds_toArray, List.set_cons_zero, List.set_cons_succ]
          refine obs_step (Eq.trans (by simp only [List.getElem?_toArray, List.getElem?_cons_succ, List.getElem?_cons_zero]; exact rfl) rfl) rfl (fun w' hS hV K hK => ?_) ?_
          · obtain ⟨q0, q1⟩ := hS.1.two
            go_simp
            exact hK.out _ _ _ rfl rfl ⟨_, _, rfl, (hM6.below hS.2)⟩ (Below.refl _ _)
          simp only [List.setIfInBounds_toArray, List.set_cons_zero, List.set_cons_succ]
          refine obs_step (Eq.trans (by simp only [List.getElem?_toArray, List.getElem?_cons_succ, List.getElem?_cons_zero]; exact rfl) rfl) rfl (fun w' hS hV K hK => ?_) ?_
          · have e2 : x 2 = (.agg #[.int .i64 P, .slice A n c]) := hV 2 (by decide)
            have e3 : x 3 = (.agg #[.int .i64 P, .slice A n c]) := hV 3 (by decide)
            have e4 : x 4 = (.slice Y n cy) := hV 4 (by decide)
            obtain ⟨A5, c5, e5, h5⟩ := hV 5 (by decide)
            have e6 : x 6 = (.slice X (pw n) cx) := hV 6 (by decide)
            obtain ⟨A7, c7, e7, h7⟩ := hV 7 (by decide)
            obtain ⟨A8, c8, e8, h8⟩ := hV 8 (by decide)
            obtain ⟨q0, q1⟩ := hS.1.two
            go_simp
            exact hK.out _ _ _ rfl rfl ⟨_, _, rfl, rdII_two (Blk.new _ _ _) (Rd.below (h7.rd) ((Below.refl _ _).alloc (Nat.le_refl _) _)) (Rd.below (h8.rd) ((Below.refl _ _).alloc (Nat.le_refl _) _)) h7.2.cap h8.2.cap⟩ ((Below.refl _ _).alloc (Nat.le_refl _) _)
          simp only [List.setIfInBounds_toArray, List.set_cons_zero, List.set_cons_succ]
          refine obs_step (Eq.trans (by simp only [List.getElem?_toArray, List.getElem?_cons_succ, List.getElem?_cons_zero]; exact rfl) rfl) rfl (fun w' hS hV K hK => ?_) ?_
          · have e1 : x 1 = (.agg #[.int .i64 P, .slice A n c]) := hV 1 (by decide)
            have e2 : x 2 = (.agg #[.int .i64 P, .slice A n c]) := hV 2 (by decide)
            have e3 : x 3 = (.agg #[.int .i64 P, .slice A n c]) := hV 3 (by decide)
            have e4 : x 4 = (.slice Y n cy) := hV 4 (by decide)
            obtain ⟨A5, c5, e5, h5⟩ := hV 5 (by decide)
            have e6 : x 6 = (.slice X (pw n) cx) := hV 6 (by decide)
            obtain ⟨A7, c7, e7, h7⟩ := hV 7 (by decide)
            obtain ⟨A8, c8, e8, h8⟩ := hV 8 (by decide)
            obtain ⟨A9, c9, e9, h9⟩ := hV 9 (by decide)
            obtain ⟨q0, q1⟩ := hS.1.two
            go_simp
            refine (HTIM.out _ _ _ (hb56.out.trans (hS.2.mono hb56.out.size)) h9).mono ?_
            rintro e v1 ⟨A2, c2, rfl, hM⟩
            exact hK.out _ _ _ rfl rfl ⟨_, _, rfl, hM.after hS.2⟩ hM.b
          simp only [List.setIfInBounds_toArray, List.set_cons_zero, List.set_cons_succ]
          refine obs_step (Eq.trans (by simp only [List.getElem?_toArray, List.getElem?_cons_succ, List.getElem?_cons_zero]; exact rfl) rfl) rfl (fun w' hS hV K hK => ?_) ?_
          · have e0 : x 0 = (.agg #[.int .i64 P, .slice A n c]) := hV 0 (by decide)
            have e1 : x 1 = (.agg #[.int .i64 P, .slice A n c]) := hV 1 (by decide)
            have e2 : x 2 = (.agg #[.int .i64 P, .slice A n c]) := hV 2 (by decide)
            have e3 : x 3 = (.agg #[.int .i64 P, .slice A n c]) := hV 3 (by decide)
            have e4 : x 4 = (.slice Y n cy) := hV 4 (by decide)
            obtain ⟨A5, c5, e5, h5⟩ := hV 5 (by decide)
            have e6 : x 6 = (.slice X (pw n) cx) := hV 6 (by decide)
            obtain ⟨A7, c7, e7, h7⟩ := hV 7 (by decide)
            obtain ⟨A8, c8, e8, h8⟩ := hV 8 (by decide)
            obtain ⟨A9, c9, e9, h9⟩ := hV 9 (by decide)
            obtain ⟨A10, c10, e10, h10⟩ := hV 10 (by decide)
            obtain ⟨q0, q1⟩ := hS.1.two
            go_simp
            refine (HPAR.out _ _ _ h10.rd).mono ?_
            rintro e v1 ⟨A2, c2, rfl, hM⟩
            exact hK.out _ _ _ rfl rfl ⟨_, _, rfl, hM.after hS.2⟩ hM.b
          simp only [List.setIfInBounds_toArray, List.set_cons_zero, List.set_cons_succ]
          refine obs_step (Eq.trans (by simp only [List.getElem?_toArray, List.getElem?_cons_succ, List.getElem?_cons_zero]; exact rfl) rfl) rfl (fun w' hS hV K hK => ?_) ?_
          · have e0 : x 0 = (.agg #[.int .i64 P, .slice A n c]) := hV 0 (by decide)
            have e1 : x 1 = (.agg #[.int .i64 P, .slice A n c]) := hV 1 (by decide)
            have e2 : x 2 = (.agg #[.int .i64 P, .slice A n c]) := hV 2 (by decide)
            have e3 : x 3 = (.agg #[.int .i64 P, .slice A n c]) := hV 3 (by decide)
            have e4 : x 4 = (.slice Y n cy) := hV 4 (by decide)
            obtain ⟨A5, c5, e5, h5⟩ := hV 5 (by decide)
            have e6 : x 6 = (.slice X (pw n) cx) := hV 6 (by decide)
            obtain ⟨A7, c7, e7, h7⟩ := hV 7 (by decide)
            obtain ⟨A8, c8, e8, h8⟩ := hV 8 (by decide)
            obtain ⟨A9, c9, e9, h9⟩ := hV 9 (by decide)
            obtain ⟨A10, c10, e10, h10⟩ := hV 10 (by decide)
            obtain ⟨A11, c11, e11, h11⟩ := hV 11 (by decide)
            obtain ⟨q0, q1⟩ := hS.1.two
            go_simp
            exact hK.out _ _ _ rfl rfl ⟨_, _, rfl, h11⟩ (Below.refl _ _)
          simp only [List.setIfInBounds_toArray, List.set_cons_zero, List.set_cons_succ]
          refine obs_step (Eq.trans (by simp only [List.getElem?_toArray, List.getElem?_cons_succ, List.getElem?_cons_zero]; exact rfl) rfl) rfl (fun w' hS hV K hK => ?_) ?_
          · obtain ⟨q0, q1⟩ := hS.1.two
            go_simp
            exact hK.out _ _ _ rfl rfl rfl (Below.refl _ _)
          simp only [List.setIfInBounds_toArray, List.set_cons_zero, List.set_cons_succ]
          refine fun w' hS hV => ?_
          have e0 : x 0 = (.agg #[.int .i64 P, .slice A n c]) := hV 0 (by decide)
          have e1 : x 1 = (.agg #[.int .i64 P, .slice A n c]) := hV 1 (by decide)
          have e2 : x 2 = (.agg #[.int .i64 P, .slice A n c]) := hV 2 (by decide)
          have e3 : x 3 = (.agg #[.int .i64 P, .slice A n c]) := hV 3 (by decide)
          have e4 : x 4 = (.slice Y n cy) := hV 4 (by decide)
          obtain ⟨A5, c5, e5, h5⟩ := hV 5 (by decide)
          have e6 : x 6 = (.slice X (pw n) cx) := hV 6 (by decide)
          obtain ⟨A7, c7, e7, h7⟩ := hV 7 (by decide)
          obtain ⟨A8, c8, e8, h8⟩ := hV 8 (by decide)
          obtain ⟨A9, c9, e9, h9⟩ := hV 9 (by decide)
          obtain ⟨A10, c10, e10, h10⟩ := hV 10 (by decide)
          obtain ⟨A11, c11, e11, h11⟩ := hV 11 (by decide)
          obtain ⟨A12, c12, e12, h12⟩ := hV 12 (by decide)
          have e13 : x 13 = (.int .i64 0) := hV 13 (by decide)
          simp only [e0, e1, e2, e3, e4, e5, e6, e7, e8, e9, e10, e11, e12, e13]
          clear e0 e1 e2 e3 e4 e5 e6 e7 e8 e9 e10 e11 e12 e13
          refine wpAny_done (by kernel_rfl) ?_ _
          go_wp2
          go_ret2
          exact aRow3 (by rw [HCO.out, HPJ.out, ← HPL.out]) (h12.after (hB5.trans (hb56.out.mono hB5.size)))
  · have HCN := Lib.hid (codeLv_ne (v := ys) hcM)
    obtain ⟨r, hr⟩ : ∃ r, r = codeM P sq [xs] := ⟨_, rfl⟩
    have HC5 : Hid (¬ codeLi P sq xs ys = 0 ∧ codeLi P sq xs ys = r) := Lib.hid (by
      have h1 : codeLv P sq xs ys = r := by rw [HCN.out, hr]
      rw [codeLi_ne (by rw [h1, hr]; exact hcM), h1]; exact ⟨by rw [hr]; exact hcM, rfl⟩)
    have b0 : (r != 0) = true := code_ne (by rw [hr]; exact hcM)
    rw [← hr] at hreg
    clear hr hcM
    go_enter Tryz.func246, Tryz.ntmps246
    go_wp2_with fail
    refine hreg.mono ?_
    rintro e w2 ⟨rfl, hb2⟩
    have hB2 := hB1.trans (hb2.mono hB1.size)
    have k2 := k1.below hb2 k1.lt
    obtain ⟨q0, q1⟩ := k2.two
    clear k0 hB0 k1 hB1 hb2
    go_wp2
    go_ret2
    exact noRow3 (by rw [prR_bad HC5.out.1, HC5.out.2]) (hB2)
set_option maxHeartbeats 3200000 in
set_option maxRecDepth 8000 in
theorem l06Invertible_any (P : Int) (A : Option Addr) (n c : Nat) (sq : List Int) (X : Option Addr) (m cx : Nat) (xs : List Int) (Y : Option Addr) (l cy : Nat) (ys : List Int) (w : World) (hn : n ≤ 1048576) (hm : m ≤ 1048576) (hl : l ≤ 1048576) (ha : Rd w A n (ints sq)) (hx : Rd w X m (ints xs)) (hcx : m ≤ cx) (hy : Rd w Y l (ints ys)) (hcy : l ≤ cy) :
    Calls Tryz.prog 247 #[.agg #[.int .i64 P, .slice A n c], .slice X m cx, .slice Y l cy] w fun e w' => e = .returned (.int .i64 (codeLi P sq xs ys)) ∧ Below w.heap.size w w' := by
  have hB0 : Below w.heap.size w (w.alloc (.cells #[.int .i64 P, .slice A n c] 26)) := (Below.refl _ _).alloc (Nat.le_refl _) _
  have k0 : Blk (w.alloc (.cells #[.int .i64 P, .slice A n c] 26)) w.heap.size 26 #[.int .i64 P, .slice A n c] := Blk.new _ _ _
  have hB1 := hB0
  have k1 := k0
  have hreg := l06Vector_any P A n c sq X m cx xs Y l cy ys (w.alloc (.cells #[.int .i64 P, .slice A n c] 26)) hn hm hl (ha.below hB1) (hx.below hB1) hcx (hy.below hB1) hcy
  by_cases hr0 : codeLv P sq xs ys = 0
  · have HCI := Lib.hid (codeLi_eq hr0)
    have hcM := (codeLv_zero hr0).1
    rw [hr0] at hreg
    clear hr0
    obtain ⟨HP, hp, hp2, hd1, hd2, hs0, hms⟩ := codeM_spec3 hcM
    have hsl := ha.lenI
    obtain ⟨hx1, hxs0⟩ := hms xs (by simp)
    have hmx : m = pw n := by rw [← hx.lenI, hx1, hsl]
    subst hmx
    have HSL := Lib.hid hsl
    have HS0 := Lib.hid hs0
    have HXS := Lib.hid hxs0
    have hn6 : n ≤ 6 := by omega
    have hn0 : 0 < n := by omega
    clear hms hx1 hs0 hxs0 hd1 hd2
    clear hsl hcM
    have hmul := fun w' (h : Below w.heap.size w w') => l04Times_any P A n c sq X cx xs X cx xs w' hp hp2 hn6 (ha.below h) HS0.out (hx.below h) HXS.out (hx.below h) HXS.out
    have HMM : Hid (prodL P sq (fun _ _ => true) xs xs = mulL P sq xs xs) := Lib.hid rfl
    obtain ⟨vq, hvq⟩ : ∃ v, v = sqL P sq xs := ⟨_, rfl⟩
    have HVQ := Lib.hid hvq
    have HVD : Hid (vq = (mulL P sq xs xs).getD 0 0) := Lib.hid hvq
    clear hvq
    by_cases hv0 : vq = 0
    · have hb0 : (vq == 0) = true := by simp; exact hv0
      have HV0 := Lib.hid hv0
      clear hv0
      go_enter Tryz.func247, Tryz.ntmps247
      go_wp2_with fail
      refine hreg.mono ?_
      rintro e w2 ⟨rfl, hb2⟩
      have hB2 := hB1.trans (hb2.mono hB1.size)
      have k2 := k1.below hb2 k1.lt
      obtain ⟨q0, q1⟩ := k2.two
      clear k0 hB0 k1 hB1 hb2
      go_wp2_with fail
      refine (hmul _ hB2).mono ?_
      rintro e w3 ⟨A3, c3, rfl, hM⟩
      rcases hM.2.form with ⟨_, hz⟩ | ⟨g3, rfl, _, _⟩
      · exact absurd hz (by have := pw_pos n; omega)
      obtain ⟨hcell, _⟩ := mkI_at hM (pw_pos n)
      have hpos : 0 < pw n := pw_pos n
      rw [HMM.out, ← HVD.out] at hcell
      have HMB := Lib.hid hM.b
      clear hM
      go_wp2
      go_ret
      exact ⟨ret_int (by rw [HCI.out, ← HVQ.out, if_pos HV0.out]), hB2.trans (HMB.out.mono hB2.size)⟩
    · have hb0 : (vq == 0) = false := by simp; exact hv0
      have HV0 := Lib.hid hv0
      clear hv0
      go_enter Tryz.func247, Tryz.ntmps247
      go_wp2_with fail
      refine hreg.mono ?_
      rintro e w2 ⟨rfl, hb2⟩
      have hB2 := hB1.trans (hb2.mono hB1.size)
      have k2 := k1.below hb2 k1.lt
      obtain ⟨q0, q1⟩ := k2.two
      clear k0 hB0 k1 hB1 hb2
      go_wp2_with fail
      refine (hmul _ hB2).mono ?_
      rintro e w3 ⟨A3, c3, rfl, hM⟩
      rcases hM.2.form with ⟨_, hz⟩ | ⟨g3, rfl, _, _⟩
      · exact absurd hz (by have := pw_pos n; omega)
      obtain ⟨hcell, _⟩ := mkI_at hM (pw_pos n)
      have hpos : 0 < pw n := pw_pos n
      rw [HMM.out, ← HVD.out] at hcell
      have HMB := Lib.hid hM.b
      clear hM
      go_wp2
      go_ret
      exact ⟨ret_int (by rw [HCI.out, ← HVQ.out, if_neg HV0.out]), hB2.trans (HMB.out.mono hB2.size)⟩
  · have HCN := Lib.hid (codeLi_ne hr0)
    obtain ⟨r, hr⟩ : ∃ r, r = codeLv P sq xs ys := ⟨_, rfl⟩
    have HR := Lib.hid hr
    have b0 : (r == 0) = false := by rw [hr]; simpa using hr0
    rw [← hr] at hreg
    clear hr hr0
    go_enter Tryz.func247, Tryz.ntmps247
    go_wp2_with fail
    refine hreg.mono ?_
    rintro e w2 ⟨rfl, hb2⟩
    have hB2 := hB1.trans (hb2.mono hB1.size)
    have k2 := k1.below hb2 k1.lt
    obtain ⟨q0, q1⟩ := k2.two
    clear k0 hB0 k1 hB1 hb2
    go_wp2
    go_ret
    exact ⟨ret_int (by rw [HCN.out, HR.out]), hB2⟩
set_option maxHeartbeats 6400000 in
set_option maxRecDepth 8000 in
theorem l06Project_any (P : Int) (A : Option Addr) (n c : Nat) (sq : List Int) (X : Option Addr) (cx : Nat) (xs : List Int) (Y : Option Addr) (cy : Nat) (ys : List Int) (w : World) (HP : isP P = true) (hn6 : n ≤ 6) (ha : Rd w A n (ints sq)) (hs0 : NumsL P sq) (hx : Rd w X (pw n) (ints xs)) (hxs0 : NumsL P xs) (hy : Rd w Y n (ints ys)) (hys0 : NumsL P ys) (h0 : ¬ sqL P sq xs = 0) :
    Calls Tryz.prog 248 #[.agg #[.int .i64 P, .slice A n c], .slice X (pw n) cx, .slice Y n cy] w fun e w' => ∃ A' c', e = .returned (.slice A' n c') ∧ MkI w w' A' n c' (projL P sq n xs ys) := by
  obtain ⟨hp3, hp2⟩ := isP_ge HP
  have hp : 2 ≤ P := by omega
  have hpwl : pw n ≤ 64 := pw_le hn6
  have HS0 := Lib.hid hs0
  have HXS := Lib.hid hxs0
  have HYS := Lib.hid hys0
  have HXL := Lib.hid hx.lenI
  have hB0 : Below w.heap.size w (w.alloc (.cells #[.int .i64 P, .slice A n c] 26)) := (Below.refl _ _).alloc (Nat.le_refl _) _
  have k0 : Blk (w.alloc (.cells #[.int .i64 P, .slice A n c] 26)) w.heap.size 26 #[.int .i64 P, .slice A n c] := Blk.new _ _ _
  obtain ⟨vq, hvq⟩ : ∃ v, v = sqL P sq xs := ⟨_, rfl⟩
  have HVQ := Lib.hid hvq
  have HIV := Lib.hid (invF_small hp vq)
  obtain ⟨hv1, hv2⟩ := sqL_small hp sq xs
  rw [← hvq] at hv1 hv2 h0
  have hv3 : 0 < vq := by omega
  have HPJ : Hid (projL P sq n xs ys = partL n (mulL P sq (contrL P sq (vecTo n ys n) xs) (scaleL P xs (invF P vq)))) := Lib.hid (by unfold projL; rw [← HVQ.out])
  obtain ⟨w1, hw1⟩ : ∃ W, W = (w.alloc (.cells #[.int .i64 P, .slice A n c] 26)) := ⟨_, rfl⟩
  have hB1 : Below w.heap.size w w1 := hw1 ▸ hB0
  have k1 : Blk w1 w.heap.size 26 #[.int .i64 P, .slice A n c] := hw1 ▸ k0
  have HSCA := Lib.hid fun (w' : World) (h : Below w1.heap.size w1 w') => l02Scale_any P X (pw n) cx (invF P vq) xs w' hp hp2 (by omega) ((hx.below hB1).below h) HXS.out (by have := HIV.out; omega) (by have := HIV.out; omega)
  have HVEC := Lib.hid fun (w' : World) (h : Below w1.heap.size w1 w') => l04Vector_any P A n c Y cy ys w' (by omega) ((hy.below hB1).below h)
  have HCON := Lib.hid fun (w' : World) (B : Option Addr) (d : Nat) (h : Below w1.heap.size w1 w') (hb : Rd w' B (pw n) (ints (vecTo n ys n))) => l05Left_any P A n c sq B d (vecTo n ys n) X cx xs w' hp hp2 hn6 ((ha.below hB1).below h) HS0.out hb (vecTo_nums (by omega) n _ HYS.out n) ((hx.below hB1).below h) HXS.out
  have HTIM := Lib.hid fun (w' : World) (B C : Option Addr) (d e : Nat) (h : Below w1.heap.size w1 w') (hb : Rd w' B (pw n) (ints (contrL P sq (vecTo n ys n) xs))) (hc : Rd w' C (pw n) (ints (scaleL P xs (invF P vq)))) => l04Times_any P A n c sq B d (contrL P sq (vecTo n ys n) xs) C e (scaleL P xs (invF P vq)) w' hp hp2 hn6 ((ha.below hB1).below h) HS0.out hb (contrL_nums (by omega) _ _ _) hc (scaleL_nums (by omega) _ _)
  rw [show prodL P sq (fun _ _ => true) (contrL P sq (vecTo n ys n) xs) (scaleL P xs (invF P vq)) = mulL P sq (contrL P sq (vecTo n ys n) xs) (scaleL P xs (invF P vq)) from rfl] at HTIM
  have HPAR := Lib.hid fun (w' : World) (B : Option Addr) (d : Nat) (hb : Rd w' B (pw n) (ints (mulL P sq (contrL P sq (vecTo n ys n) xs) (scaleL P xs (invF P vq))))) => l04List_any P A n c B d (mulL P sq (contrL P sq (vecTo n ys n) xs) (scaleL P xs (invF P vq))) w' (by omega) hb
  obtain ⟨PL, hPL⟩ : ∃ L, L = partL n (mulL P sq (contrL P sq (vecTo n ys n) xs) (scaleL P xs (invF P vq))) := ⟨_, rfl⟩
  have HPL := Lib.hid hPL
  rw [← hPL] at HPAR
  obtain ⟨ML, hML⟩ : ∃ L, L = mulL P sq (contrL P sq (vecTo n ys n) xs) (scaleL P xs (invF P vq)) := ⟨_, rfl⟩
  rw [← hML] at HPAR HTIM
  obtain ⟨CL, hCL⟩ : ∃ L, L = contrL P sq (vecTo n ys n) xs := ⟨_, rfl⟩
  rw [← hCL] at HTIM HCON
  obtain ⟨VL, hVL⟩ : ∃ L, L = vecTo n ys n := ⟨_, rfl⟩
  rw [← hVL] at HCON HVEC
  obtain ⟨IL, hIL⟩ : ∃ L, L = scaleL P xs (invF P vq) := ⟨_, rfl⟩
  rw [← hIL] at HTIM HSCA
  clear hPL hML hCL hVL hIL
  have HSQL := Lib.hid fun (w' : World) (h : Below w1.heap.size w1 w') => l04Times_any P A n c sq X cx xs X cx xs w' hp hp2 hn6 ((ha.below hB1).below h) HS0.out ((hx.below hB1).below h) HXS.out ((hx.below hB1).below h) HXS.out
  rw [show prodL P sq (fun _ _ => true) xs xs = mulL P sq xs xs from rfl] at HSQL
  obtain ⟨SL, hSL⟩ : ∃ L, L = mulL P sq xs xs := ⟨_, rfl⟩
  have HVD : Hid (vq = SL.getD 0 0) := Lib.hid (by rw [hvq, hSL]; rfl)
  rw [← hSL] at HSQL
  clear hs0 hxs0 hys0 hSL hvq h0 hB0 k0
  go_enter Tryz.func248, Tryz.ntmps248
  go_wp2
  rw [← hw1]
  clear hw1
  refine wp_obs 14 [[], [0], [], [], [3], [], [], [], [5, 6, 7], [5, 6, 7, 8], [5, 6, 7, 8, 9], [3, 4, 5, 6, 7, 8, 9, 10], [0, 1, 2, 3, 4, 5, 6, 7, 8, 9, 10, 11], [0, 1, 2, 3, 4, 5, 6, 7, 8, 9, 10, 11, 12]] [VIs (.pointer (some ⟨w.heap.size, 0, none⟩)), VIs (.int .i64 (P)), VIs (.slice X (pw n) cx), VIs (.pointer (some ⟨w.heap.size, 0, none⟩)), VIs (.int .i64 (P)), VIs (.agg #[.int .i64 P, .slice A n c]), VIs (.slice X (pw n) cx), VIs (.slice X (pw n) cx), VSl w1 (pw n) SL, VCell (.int .i64 vq), VIs (.int .i64 (vq)), VIs (.int .i64 (invF P vq)), VSl w1 (pw n) IL, VSl w1 (pw n) IL] (fun w' => Blk w' w.heap.size 26 #[.int .i64 P, .slice A n c] ∧ Below w1.heap.size w1 w') (by kernel_rfl) (by kernel_rfl) (fun _ _ h hb => ⟨h.1.below hb h.1.lt, h.2.trans (hb.mono h.2.size)⟩) (⟨k1.drew, (Below.refl _ _).drew⟩) (fun x => ?_)
  refine obs_step (Eq.trans (by simp only [List.getElem?_toArray, List.getElem?_cons_zero]; exact rfl) rfl) rfl (fun w' hS hV K hK => ?_) ?_
  · obtain ⟨q0, q1⟩ := hS.1.two
    go_simp
    exact hK.out _ _ _ rfl rfl rfl (Below.refl _ _)
  simp only [List.setIfInBounds_toArray, List.set_cons_zero, List.set_cons_succ]
  refine obs_step (Eq.trans (by simp only [List.getElem?_toArray, List.getElem?_cons_succ, List.getElem?_cons_zero]; exact rfl) rfl) rfl (fun w' hS hV K hK => ?_) ?_
  · have e0 : x 0 = (.pointer (some ⟨w.heap.size, 0, none⟩)) := hV 0 (by decide)
    obtain ⟨q0, q1⟩ := hS.1.two
    go_simp
    exact hK.out _ _ _ rfl rfl rfl (Below.refl _ _)
  simp only [List.setIfInBounds_toArray, List.set_cons_zero, List.set_cons_succ]
  refine obs_step (Eq.trans (by simp only [List.getElem?_toArray, List.getElem?_cons_succ, List.getElem?_cons_zero]; exact rfl) rfl) rfl (fun w' hS hV K hK => ?_) ?_
  · obtain ⟨q0, q1⟩ := hS.1.two
    go_simp
    exact hK.out _ _ _ rfl rfl rfl (Below.refl _ _)
  simp only [List.setIfInBounds_toArray, List.set_cons_zero, List.set_cons_succ]
  refine obs_step (Eq.trans (by simp only [List.getElem?_toArray, List.getElem?_cons_succ, List.getElem?_cons_zero]; exact rfl) rfl) rfl (fun w' hS hV K hK => ?_) ?_
  · obtain ⟨q0, q1⟩ := hS.1.two
    go_simp
    exact hK.out _ _ _ rfl rfl rfl (Below.refl _ _)
  simp only [List.setIfInBounds_toArray, List.set_cons_zero, List.set_cons_succ]
  refine obs_step (Eq.trans (by simp only [List.getElem?_toArray, List.getElem?_cons_succ, List.getElem?_cons_zero]; exact rfl) rfl) rfl (fun w' hS hV K hK => ?_) ?_
  · have e3 : x 3 = (.pointer (some ⟨w.heap.size, 0, none⟩)) := hV 3 (by decide)
    obtain ⟨q0, q1⟩ := hS.1.two
    go_simp
    exact hK.out _ _ _ rfl rfl rfl (Below.refl _ _)
  simp only [List.setIfInBounds_toArray, List.set_cons_zero, List.set_cons_succ]
  refine obs_step (Eq.trans (by simp only [List.getElem?_toArray, List.getElem?_cons_succ, List.getElem?_cons_zero]; exact rfl) rfl) rfl (fun w' hS hV K hK => ?_) ?_
  · obtain ⟨q0, q1⟩ := hS.1.two
    go_simp
    exact hK.out _ _ _ rfl rfl rfl (Below.refl _ _)
  simp only [List.setIfInBounds_toArray, List.set_cons_zero, List.set_cons_succ]
  refine obs_step (Eq.trans (by simp only [List.getElem?_toArray, List.getElem?_cons_succ, List.getElem?_cons_zero]; exact rfl) rfl) rfl (fun w' hS hV K hK => ?_) ?_
  · obtain ⟨q0, q1⟩ := hS.1.two
    go_simp
    exact hK.out _ _ _ rfl rfl rfl (Below.refl _ _)
  simp only [List.setIfInBounds_toArray, List.set_cons_zero, List.set_cons_succ]
  refine obs_step (Eq.trans (by simp only [List.getElem?_toArray, List.getElem?_cons_succ, List.getElem?_cons_zero]; exact rfl) rfl) rfl (fun w' hS hV K hK => ?_) ?_
  · obtain ⟨q0, q1⟩ := hS.1.two
    go_simp
    exact hK.out _ _ _ rfl rfl rfl (Below.refl _ _)
  simp only [List.setIfInBounds_toArray, List.set_cons_zero, List.set_cons_succ]
  refine obs_step (Eq.trans (by simp only [List.getElem?_toArray, List.getElem?_cons_succ, List.getElem?_cons_zero]; exact rfl) rfl) rfl (fun w' hS hV K hK => ?_) ?_
  · have e5 : x 5 = (.agg #[.int .i64 P, .slice A n c]) := hV 5 (by decide)
    have e6 : x 6 = (.slice X (pw n) cx) := hV 6 (by decide)
    have e7 : x 7 = (.slice X (pw n) cx) := hV 7 (by decide)
    obtain ⟨q0, q1⟩ := hS.1.two
    go_simp
    refine (HSQL.out _ hS.2).mono ?_
    rintro e v1 ⟨A2, c2, rfl, hM⟩
    exact hK.out _ _ _ rfl rfl ⟨_, _, rfl, hM.after hS.2⟩ hM.b
  simp only [List.setIfInBounds_toArray, List.set_cons_zero, List.set_cons_succ]
  refine obs_step (Eq.trans (by simp only [List.getElem?_toArray, List.getElem?_cons_succ, List.getElem?_cons_zero]; exact rfl) rfl) rfl (fun w' hS hV K hK => ?_) ?_
  · have e5 : x 5 = (.agg #[.int .i64 P, .slice A n c]) := hV 5 (by decide)
    have e6 : x 6 = (.slice X (pw n) cx) := hV 6 (by decide)
    have e7 : x 7 = (.slice X (pw n) cx) := hV 7 (by decide)
    obtain ⟨A8, c8, e8, h8⟩ := hV 8 (by decide)
    obtain ⟨q0, q1⟩ := hS.1.two
    rcases h8.2.form with ⟨_, hz⟩ | ⟨gc, hgc, _, _⟩
    · exact absurd hz (by have := pw_pos n; omega)
    subst hgc
    obtain ⟨hcell, _⟩ := mkI_at h8 (pw_pos n)
    rw [← HVD.out] at hcell
    have hposI : 0 < pw n := pw_pos n
    go_simp
    exact hK.out _ _ _ rfl rfl ⟨_, rfl, hcell⟩ (Below.refl _ _)
  simp only [List.setIfInBounds_toArray, List.set_cons_zero, List.set_cons_succ]
  refine obs_step (Eq.trans (by simp only [List.getElem?_toArray, List.getElem?_cons_succ, List.getElem?_cons_zero]; exact rfl) rfl) rfl (fun w' hS hV K hK => ?_) ?_
  · have e5 : x 5 = (.agg #[.int .i64 P, .slice A n c]) := hV 5 (by decide)
    have e6 : x 6 = (.slice X (pw n) cx) := hV 6 (by decide)
    have e7 : x 7 = (.slice X (pw n) cx) := hV 7 (by decide)
    obtain ⟨A8, c8, e8, h8⟩ := hV 8 (by decide)
    obtain ⟨p9, e9, h9⟩ := hV 9 (by decide)
    obtain ⟨q0, q1⟩ := hS.1.two
    go_simp
    exact hK.out _ _ _ rfl rfl rfl (Below.refl _ _)
  simp only [List.setIfInBounds_toArray, List.set_cons_zero, List.set_cons_succ]
  refine obs_step (Eq.trans (by simp only [List.getElem?_toArray, List.getElem?_cons_succ, List.getElem?_cons_zero]; exact rfl) rfl) rfl (fun w' hS hV K hK => ?_) ?_
  · have e3 : x 3 = (.pointer (some ⟨w.heap.size, 0, none⟩)) := hV 3 (by decide)
    have e4 : x 4 = (.int .i64 (P)) := hV 4 (by decide)
    have e5 : x 5 = (.agg #[.int .i64 P, .slice A n c]) := hV 5 (by decide)
    have e6 : x 6 = (.slice X (pw n) cx) := hV 6 (by decide)
    have e7 : x 7 = (.slice X (pw n) cx) := hV 7 (by decide)
    obtain ⟨A8, c8, e8, h8⟩ := hV 8 (by decide)
    obtain ⟨p9, e9, h9⟩ := hV 9 (by decide)
    have e10 : x 10 = (.int .i64 (vq)) := hV 10 (by decide)
    obtain ⟨q0, q1⟩ := hS.1.two
    go_simp
    refine (l01Inv_any P vq _ HP hv3 hv2).mono ?_
    rintro e v1 ⟨rfl, rfl⟩
    exact hK.out _ _ _ rfl rfl rfl (Below.refl _ _)
  simp only [List.setIfInBounds_toArray, List.set_cons_zero, List.set_cons_succ]
  refine obs_step (Eq.trans (by simp only [List.getElem?_toArray, List.getElem?_cons_succ, List.getElem?_cons_zero]; exact rfl) rfl) rfl (fun w' hS hV K hK => ?_) ?_
  · have e0 : x 0 = (.pointer (some ⟨w.heap.size, 0, none⟩)) := hV 0 (by decide)
    have e1 : x 1 = (.int .i64 (P)) := hV 1 (by decide)
    have e2 : x 2 = (.slice X (pw n) cx) := hV 2 (by decide)
    have e3 : x 3 = (.pointer (some ⟨w.heap.size, 0, none⟩)) := hV 3 (by decide)
    have e4 : x 4 = (.int .i64 (P)) := hV 4 (by decide)
    have e5 : x 5 = (.agg #[.int .i64 P, .slice A n c]) := hV 5 (by decide)
    have e6 : x 6 = (.slice X (pw n) cx) := hV 6 (by decide)
    have e7 : x 7 = (.slice X (pw n) cx) := hV 7 (by decide)
    obtain ⟨A8, c8, e8, h8⟩ := hV 8 (by decide)
    obtain ⟨p9, e9, h9⟩ := hV 9 (by decide)
    have e10 : x 10 = (.int .i64 (vq)) := hV 10 (by decide)
    have e11 : x 11 = (.int .i64 (invF P vq)) := hV 11 (by decide)
    obtain ⟨q0, q1⟩ := hS.1.two
    go_simp
    refine (HSCA.out _ hS.2).mono ?_
    rintro e v1 ⟨A2, c2, rfl, hM⟩
    exact hK.out _ _ _ rfl rfl ⟨_, _, rfl, hM.after hS.2⟩ hM.b
  simp only [List.setIfInBounds_toArray, List.set_cons_zero, List.set_cons_succ]
  refine obs_step (Eq.trans (by simp only [List.getElem?_toArray, List.getElem?_cons_succ, List.getElem?_cons_zero]; exact rfl) rfl) rfl (fun w' hS hV K hK => ?_) ?_
  · have e0 : x 0 = (.pointer (some ⟨w.heap.size, 0, none⟩)) := hV 0 (by decide)
    have e1 : x 1 = (.int .i64 (P)) := hV 1 (by decide)
    have e2 : x 2 = (.slice X (pw n) cx) := hV 2 (by decide)
    have e3 : x 3 = (.pointer (some ⟨w.heap.size, 0, none⟩)) := hV 3 (by decide)
    have e4 : x 4 = (.int .i64 (P)) := hV 4 (by decide)
    have e5 : x 5 = (.agg #[.int .i64 P, .slice A n c]) := hV 5 (by decide)
    have e6 : x 6 = (.slice X (pw n) cx) := hV 6 (by decide)
    have e7 : x 7 = (.slice X (pw n) cx) := hV 7 (by decide)
    obtain ⟨A8, c8, e8, h8⟩ := hV 8 (by decide)
    obtain ⟨p9, e9, h9⟩ := hV 9 (by decide)
    have e10 : x 10 = (.int .i64 (vq)) := hV 10 (by decide)
    have e11 : x 11 = (.int .i64 (invF P vq)) := hV 11 (by decide)
    obtain ⟨A12, c12, e12, h12⟩ := hV 12 (by decide)
    obtain ⟨q0, q1⟩ := hS.1.two
    go_simp
    exact hK.out _ _ _ rfl rfl ⟨_, _, rfl, h12⟩ (Below.refl _ _)
  simp only [List.setIfInBounds_toArray, List.set_cons_zero, List.set_cons_succ]
  refine fun w' hS hV => ?_
  have e0 : x 0 = (.pointer (some ⟨w.heap.size, 0, none⟩)) := hV 0 (by decide)
  have e1 : x 1 = (.int .i64 (P)) := hV 1 (by decide)
  have e2 : x 2 = (.slice X (pw n) cx) := hV 2 (by decide)
  have e3 : x 3 = (.pointer (some ⟨w.heap.size, 0, none⟩)) := hV 3 (by decide)
  have e4 : x 4 = (.int .i64 (P)) := hV 4 (by decide)
  have e5 : x 5 = (.agg #[.int .i64 P, .slice A n c]) := hV 5 (by decide)
  have e6 : x 6 = (.slice X (pw n) cx) := hV 6 (by decide)
  have e7 : x 7 = (.slice X (pw n) cx) := hV 7 (by decide)
  obtain ⟨A8, c8, e8, h8⟩ := hV 8 (by decide)
  obtain ⟨p9, e9, h9⟩ := hV 9 (by decide)
  have e10 : x 10 = (.int .i64 (vq)) := hV 10 (by decide)
  have e11 : x 11 = (.int .i64 (invF P vq)) := hV 11 (by decide)
  obtain ⟨A12, c12, e12, h12⟩ := hV 12 (by decide)
  obtain ⟨A13, c13, e13, h13⟩ := hV 13 (by decide)
  simp only [e0, e1, e2, e3, e4, e5, e6, e7, e8, e9, e10, e11, e12, e13]
  clear e0 e1 e2 e3 e4 e5 e6 e7 e8 e9 e10 e11 e12 e13
  refine wpAny_done (by kernel_rfl) ?_ _
  obtain ⟨w2, rfl⟩ : ∃ W, W = w' := ⟨_, rfl⟩
  have k2 := hS.1
  have hb12 := Lib.hid hS.2
  have hM7 := h13
  obtain ⟨q0, q1⟩ := k2.two
  clear hS
  go_wp2
  refine wp_obs 12 [[], [], [], [], [], [3, 4], [], [2, 3, 4, 5, 6], [], [1, 2, 3, 4, 5, 6, 7, 8], [0, 1, 2, 3, 4, 5, 6, 7, 8, 9], [0, 1, 2, 3, 4, 5, 6, 7, 8, 9, 10]] [VIs (.agg #[.int .i64 P, .slice A n c]), VIs (.agg #[.int .i64 P, .slice A n c]), VIs (.agg #[.int .i64 P, .slice A n c]), VIs (.agg #[.int .i64 P, .slice A n c]), VIs (.slice Y n cy), VSl w2 (pw n) VL, VIs (.slice X (pw n) cx), VSl w2 (pw n) CL, VSl w1 (pw n) IL, VSl w2 (pw n) ML, VSl w2 n PL, VSl w2 n PL] (fun w' => Blk w' w.heap.size 26 #[.int .i64 P, .slice A n c] ∧ Below w2.heap.size w2 w') (by kernel_rfl) (by kernel_rfl) (fun _ _ h hb => ⟨h.1.below hb h.1.lt, h.2.trans (hb.mono h.2.size)⟩) (⟨k2.drew, (Below.refl _ _).drew⟩) (fun x => ?_)
  refine obs_step (Eq.trans (by simp only [List.getElem?_toArray, List.getElem?_cons_zero]; exact rfl) rfl) rfl (fun w' hS hV K hK => ?_) ?_
  · obtain ⟨q0, q1⟩ := hS.1.two
    go_simp
    exact hK.out _ _ _ rfl rfl rfl (Below.refl _ _)
  simp only [List.setIfInBounds_toArray, List.set_cons_zero, List.set_cons_succ]
  refine obs_step (Eq.trans (by simp only [List.getElem?_toArray, List.getElem?_cons_succ, List.getElem?_cons_zero]; exact rfl) rfl) rfl (fun w' hS hV K hK => ?_) ?_
  · obtain ⟨q0, q1⟩ := hS.1.two
    go_simp
    exact hK.out _ _ _ rfl rfl rfl (Below.refl _ _)
  simp only [List.setIfInBounds_toArray, List.set_cons_zero, List.set_cons_succ]
  refine obs_step (Eq.trans (by simp only [List.getElem?_toArray, List.getElem?_cons_succ, List.getElem?_cons_zero]; exact rfl) rfl) rfl (fun w' hS hV K hK => ?_) ?_
  · obtain ⟨q0, q1⟩ := hS.1.two
    go_simp
    exact hK.out _ _ _ rfl rfl rfl (Below.refl _ _)
  simp only [List.setIfInBounds_toArray, List.set_cons_zero, List.set_cons_succ]
  refine obs_step (Eq.trans (by simp only [List.getElem?_toArray, List.getElem?_cons_succ, List.getElem?_cons_zero]; exact rfl) rfl) rfl (fun w' hS hV K hK => ?_) ?_
  · obtain ⟨q0, q1⟩ := hS.1.two
    go_simp
    exact hK.out _ _ _ rfl rfl rfl (Below.refl _ _)
  simp only [List.setIfInBounds_toArray, List.set_cons_zero, List.set_cons_succ]
  refine obs_step (Eq.trans (by simp only [List.getElem?_toArray, List.getElem?_cons_succ, List.getElem?_cons_zero]; exact rfl) rfl) rfl (fun w' hS hV K hK => ?_) ?_
  · obtain ⟨q0, q1⟩ := hS.1.two
    go_simp
    exact hK.out _ _ _ rfl rfl rfl (Below.refl _ _)
  simp only [List.setIfInBounds_toArray, List.set_cons_zero, List.set_cons_succ]
  refine obs_step (Eq.trans (by simp only [List.getElem?_toArray, List.getElem?_cons_succ, List.getElem?_cons_zero]; exact rfl) rfl) rfl (fun w' hS hV K hK => ?_) ?_
  · have e3 : x 3 = (.agg #[.int .i64 P, .slice A n c]) := hV 3 (by decide)
    have e4 : x 4 = (.slice Y n cy) := hV 4 (by decide)
    obtain ⟨q0, q1⟩ := hS.1.two
    go_simp
    refine (HVEC.out _ (hb12.out.trans (hS.2.mono hb12.out.size))).mono ?_
    rintro e v1 ⟨A2, c2, rfl, hM⟩
    exact hK.out _ _ _ rfl rfl ⟨_, _, rfl, hM.after hS.2⟩ hM.b
  simp only [List.setIfInBounds_toArray, List.set_cons_zero, List.set_cons_succ]
  refine obs_step (Eq.trans (by simp only [List.getElem?_toArray, List.getElem?_cons_succ, List.getElem?_cons_zero]; exact rfl) rfl) rfl (fun w' hS hV K hK => ?_) ?_
  · obtain ⟨q0, q1⟩ := hS.1.two
    go_simp
    exact hK.out _ _ _ rfl rfl rfl (Below.refl _ _)
  simp only [List.setIfInBounds_toArray, List.set_cons_zero, List.set_cons_succ]
  refine obs_step (Eq.trans (by simp only [List.getElem?_toArray, List.getElem?_cons_succ, List.getElem?_cons_zero]; exact rfl) rfl) rfl (fun w' hS hV K hK => ?_) ?_
  · have e2 : x 2 = (.agg #[.int .i64 P, .slice A n c]) := hV 2 (by decide)
    have e3 : x 3 = (.agg #[.int .i64 P, .slice A n c]) := hV 3 (by decide)
    have e4 : x 4 = (.slice Y n cy) := hV 4 (by decide)
    obtain ⟨A5, c5, e5, h5⟩ := hV 5 (by decide)
    have e6 : x 6 = (.slice X (pw n) cx) := hV 6 (by decide)
    obtain ⟨q0, q1⟩ := hS.1.two
    go_simp
    refine (HCON.out _ _ _ (hb12.out.trans (hS.2.mono hb12.out.size)) h5.rd).mono ?_
    rintro e v1 ⟨A2, c2, rfl, hM⟩
    exact hK.out _ _ _ rfl rfl ⟨_, _, rfl, hM.after hS.2⟩ hM.b
  simp only [List.setIfInBounds_toArray, List.set_cons_zero, List.set_cons_succ]
  refine obs_step (Eq.trans (by simp only [List.getElem?_toArray, List.getElem?_cons_succ, List.getElem?_cons_zero]; exact rfl) rfl) rfl (fun w' hS hV K hK => ?_) ?_
  · obtain ⟨q0, q1⟩ := hS.1.two
    go_simp
    exact hK.out _ _ _ rfl rfl ⟨_, _, rfl, (hM7.below hS.2)⟩ (Below.refl _ _)
  simp only [List.setIfInBounds_toArray, List.set_cons_zero, List.set_cons_succ]
  refine obs_step (Eq.trans (by simp only [List.getElem?_toArray, List.getElem?_cons_succ, List.getElem?_cons_zero]; exact rfl) rfl) rfl (fun w' hS hV K hK => ?_) ?_
  · have e1 : x 1 = (.agg #[.int .i64 P, .slice A n c]) := hV 1 (by decide)
    have e2 : x 2 = (.agg #[.int .i64 P, .slice A n c]) := hV 2 (by decide)
    have e3 : x 3 = (.agg #[.int .i64 P, .slice A n c]) := hV 3 (by decide)
    have e4 : x 4 = (.slice Y n cy) := hV 4 (by decide)
    obtain ⟨A5, c5, e5, h5⟩ := hV 5 (by decide)
    have e6 : x 6 = (.slice X (pw n) cx) := hV 6 (by decide)
    obtain ⟨A7, c7, e7, h7⟩ := hV 7 (by decide)
    obtain ⟨A8, c8, e8, h8⟩ := hV 8 (by decide)
    obtain ⟨q0, q1⟩ := hS.1.two
    go_simp
    refine (HTIM.out _ _ _ _ _ (hb12.out.trans (hS.2.mono hb12.out.size)) h7.rd h8.rd).mono ?_
    rintro e v1 ⟨A2, c2, rfl, hM⟩
    exact hK.out _ _ _ rfl rfl ⟨_, _, rfl, hM.after hS.2⟩ hM.b
  simp only [List.setIfInBounds_toArray, List.set_cons_zero, List.set_cons_succ]
  refine obs_step (Eq.trans (by simp only [List.getElem?_toArray, List.getElem?_cons_succ, List.getElem?_cons_zero]; exact rfl) rfl) rfl (fun w' hS hV K hK => ?_) ?_
  · have e0 : x 0 = (.agg #[.int .i64 P, .slice A n c]) := hV 0 (by decide)
    have e1 : x 1 = (.agg #[.int .i64 P, .slice A n c]) := hV 1 (by decide)
    have e2 : x 2 = (.agg #[.int .i64 P, .slice A n c]) := hV 2 (by decide)
    have e3 : x 3 = (.agg #[.int .i64 P, .slice A n c]) := hV 3 (by decide)
    have e4 : x 4 = (.slice Y n cy) := hV 4 (by decide)
    obtain ⟨A5, c5, e5, h5⟩ := hV 5 (by decide)
    have e6 : x 6 = (.slice X (pw n) cx) := hV 6 (by decide)
    obtain ⟨A7, c7, e7, h7⟩ := hV 7 (by decide)
    obtain ⟨A8, c8, e8, h8⟩ := hV 8 (by decide)
    obtain ⟨A9, c9, e9, h9⟩ := hV 9 (by decide)
    obtain ⟨q0, q1⟩ := hS.1.two
    go_simp
    refine (HPAR.out _ _ _ h9.rd).mono ?_
    rintro e v1 ⟨A2, c2, rfl, hM⟩
    exact hK.out _ _ _ rfl rfl ⟨_, _, rfl, hM.after hS.2⟩ hM.b
  simp only [List.setIfInBounds_toArray, List.set_cons_zero, List.set_cons_succ]
  refine obs_step (Eq.trans (by simp only [List.getElem?_toArray, List.getElem?_cons_succ, List.getElem?_cons_zero]; exact rfl) rfl) rfl (fun w' hS hV K hK => ?_) ?_
  · have e0 : x 0 = (.agg #[.int .i64 P, .slice A n c]) := hV 0 (by decide)
    have e1 : x 1 = (.agg #[.int .i64 P, .slice A n c]) := hV 1 (by decide)
    have e2 : x 2 = (.agg #[.int .i64 P, .slice A n c]) := hV 2 (by decide)
    have e3 : x 3 = (.agg #[.int .i64 P, .slice A n c]) := hV 3 (by decide)
    have e4 : x 4 = (.slice Y n cy) := hV 4 (by decide)
    obtain ⟨A5, c5, e5, h5⟩ := hV 5 (by decide)
    have e6 : x 6 = (.slice X (pw n) cx) := hV 6 (by decide)
    obtain ⟨A7, c7, e7, h7⟩ := hV 7 (by decide)
    obtain ⟨A8, c8, e8, h8⟩ := hV 8 (by decide)
    obtain ⟨A9, c9, e9, h9⟩ := hV 9 (by decide)
    obtain ⟨A10, c10, e10, h10⟩ := hV 10 (by decide)
    obtain ⟨q0, q1⟩ := hS.1.two
    go_simp
    exact hK.out _ _ _ rfl rfl ⟨_, _, rfl, h10⟩ (Below.refl _ _)
  simp only [List.setIfInBounds_toArray, List.set_cons_zero, List.set_cons_succ]
  refine fun w' hS hV => ?_
  have e0 : x 0 = (.agg #[.int .i64 P, .slice A n c]) := hV 0 (by decide)
  have e1 : x 1 = (.agg #[.int .i64 P, .slice A n c]) := hV 1 (by decide)
  have e2 : x 2 = (.agg #[.int .i64 P, .slice A n c]) := hV 2 (by decide)
  have e3 : x 3 = (.agg #[.int .i64 P, .slice A n c]) := hV 3 (by decide)
  have e4 : x 4 = (.slice Y n cy) := hV 4 (by decide)
  obtain ⟨A5, c5, e5, h5⟩ := hV 5 (by decide)
  have e6 : x 6 = (.slice X (pw n) cx) := hV 6 (by decide)
  obtain ⟨A7, c7, e7, h7⟩ := hV 7 (by decide)
  obtain ⟨A8, c8, e8, h8⟩ := hV 8 (by decide)
  obtain ⟨A9, c9, e9, h9⟩ := hV 9 (by decide)
  obtain ⟨A10, c10, e10, h10⟩ := hV 10 (by decide)
  obtain ⟨A11, c11, e11, h11⟩ := hV 11 (by decide)
  simp only [e0, e1, e2, e3, e4, e5, e6, e7, e8, e9, e10, e11]
  clear e0 e1 e2 e3 e4 e5 e6 e7 e8 e9 e10 e11
  refine wpAny_done (by kernel_rfl) ?_ _
  go_wp2
  go_ret
  exact ⟨_, _, rfl, by rw [HPJ.out, ← HPL.out]; exact h11.after (hB1.trans (hb12.out.mono hB1.size))⟩
set_option maxRecDepth 8000 in
set_option maxHeartbeats 800000 in
theorem ProjectOnto_any (P : Int) (A : Option Addr) (n c : Nat) (sq : List Int) (X : Option Addr) (m cx : Nat) (xs : List Int) (Y : Option Addr) (l cy : Nat) (ys : List Int) (w : World) (hn : n ≤ 1048576) (hm : m ≤ 1048576) (hl : l ≤ 1048576) (ha : Rd w A n (ints sq)) (hx : Rd w X m (ints xs)) (hcx : m ≤ cx) (hy : Rd w Y l (ints ys)) (hcy : l ≤ cy) :
    Calls Tryz.prog 95 #[.agg #[.int .i64 P, .slice A n c], .slice X m cx, .slice Y l cy] w fun e w' => ∃ (A' : Option Addr) (k c' : Nat), e = .returned (.tuple #[.slice A' k c', .int .i64 (prR P sq xs ys).2]) ∧ MkI w w' A' k c' (prR P sq xs ys).1 := by
  have hB0 : Below w.heap.size w (w.alloc (.cells #[.int .i64 P, .slice A n c] 26)) := (Below.refl _ _).alloc (Nat.le_refl _) _
  have k0 : Blk (w.alloc (.cells #[.int .i64 P, .slice A n c] 26)) w.heap.size 26 #[.int .i64 P, .slice A n c] := Blk.new _ _ _
  obtain ⟨q0, q1⟩ := k0.two
  have hcall := projection_any P A n c sq X m cx xs Y l cy ys (w.alloc (.cells #[.int .i64 P, .slice A n c] 26)) hn hm hl (ha.below hB0) (hx.below hB0) hcx (hy.below hB0) hcy
  clear k0
  go_enter Tryz.func95, Tryz.ntmps95
  go_wp2_with fail
  refine hcall.mono ?_
  rintro e w2 ⟨A2, k2, c2, rfl, hM⟩
  go_wp2
  go_ret2
  exact ⟨_, _, _, rfl, hM.after hB0⟩
set_option maxHeartbeats 3200000 in
set_option maxRecDepth 8000 in
theorem specProjectOnto_any (P : Int) (A : Option Addr) (n c : Nat) (sq : List Int) (X : Option Addr) (m cx : Nat) (xs : List Int) (Y : Option Addr) (l cy : Nat) (ys : List Int) (w : World) (hn : n ≤ 1048576) (hm : m ≤ 1048576) (hl : l ≤ 1048576) (ha : Rd w A n (ints sq)) (hx : Rd w X m (ints xs)) (hcx : m ≤ cx) (hy : Rd w Y l (ints ys)) (hcy : l ≤ cy) :
    Calls Tryz.prog 96 #[.agg #[.int .i64 P, .slice A n c], .slice X m cx, .slice Y l cy] w fun e w' => ∃ (A' : Option Addr) (k c' : Nat), e = .returned (.tuple #[.slice A' k c', .int .i64 (prR P sq xs ys).2]) ∧ MkI w w' A' k c' (prR P sq xs ys).1 := by
  have hB0 : Below w.heap.size w (w.alloc (.cells #[.int .i64 P, .slice A n c] 26)) := (Below.refl _ _).alloc (Nat.le_refl _) _
  have k0 : Blk (w.alloc (.cells #[.int .i64 P, .slice A n c] 26)) w.heap.size 26 #[.int .i64 P, .slice A n c] := Blk.new _ _ _
  have hB1 := hB0
  have k1 := k0
  have hreg := l06Invertible_any P A n c sq X m cx xs Y l cy ys (w.alloc (.cells #[.int .i64 P, .slice A n c] 26)) hn hm hl (ha.below hB1) (hx.below hB1) hcx (hy.below hB1) hcy
  by_cases hr0 : codeLi P sq xs ys = 0
  · skip
    obtain ⟨hcv0, hsq0⟩ := codeLi_zero hr0
    obtain ⟨hcM, hve, hbl0⟩ := codeLv_zero hcv0
    obtain ⟨hly0, hys0⟩ := isVe_spec3 hve
    have hly : n = l := by rw [← hy.lenI, hly0, ha.lenI]
    subst hly
    have HYS := Lib.hid hys0
    have HSQ0 := Lib.hid hsq0
    clear hve hbl0 hly0 hys0 hcv0 hsq0
    rw [hr0] at hreg
    have HR0 := Lib.hid hr0
    clear hr0
    obtain ⟨HP, hp, hp2, hd1, hd2, hs0, hms⟩ := codeM_spec3 hcM
    have hsl := ha.lenI
    obtain ⟨hx1, hxs0⟩ := hms xs (by simp)
    have hmx : m = pw n := by rw [← hx.lenI, hx1, hsl]
    subst hmx
    have HSL := Lib.hid hsl
    have HS0 := Lib.hid hs0
    have HXS := Lib.hid hxs0
    have hn6 : n ≤ 6 := by omega
    have hn0 : 0 < n := by omega
    clear hsl hms hx1 hs0 hxs0 hd1 hd2 hcM
    go_enter Tryz.func96, Tryz.ntmps96
    go_wp2_with fail
    refine hreg.mono ?_
    rintro e w2 ⟨rfl, hb2⟩
    have hB2 := hB1.trans (hb2.mono hB1.size)
    have k2 := k1.below hb2 k1.lt
    obtain ⟨q0, q1⟩ := k2.two
    clear k0 hB0 k1 hB1 hb2
    go_wp2_with fail
    refine (l06Project_any P A n c sq X cx xs Y cy ys _ HP hn6 (ha.below hB2) HS0.out (hx.below hB2) HXS.out (hy.below hB2) HYS.out HSQ0.out).mono ?_
    rintro e w3 ⟨A3, c3, rfl, hM⟩
    go_wp2
    go_ret2
    exact aRow3 (by rw [prR_ok HR0.out, HSL.out]) (hM.after hB2)
  · obtain ⟨r, hr⟩ : ∃ r, r = codeLi P sq xs ys := ⟨_, rfl⟩
    have HR := Lib.hid hr
    have HR0 := Lib.hid hr0
    have b0 : (r != 0) = true := code_ne (by rw [hr]; exact hr0)
    rw [← hr] at hreg
    clear hr hr0
    go_enter Tryz.func96, Tryz.ntmps96
    go_wp2_with fail
    refine hreg.mono ?_
    rintro e w2 ⟨rfl, hb2⟩
    have hB2 := hB1.trans (hb2.mono hB1.size)
    have k2 := k1.below hb2 k1.lt
    obtain ⟨q0, q1⟩ := k2.two
    clear k0 hB0 k1 hB1 hb2
    go_wp2
    go_ret2
    exact noRow3 (by rw [prR_bad HR0.out, HR.out]) hB2
/-- RejectFrom. -/
def rejR (P : Int) (sq : List Int) (xs : List Int) (v : List Int) : List Int × Int := if codeLi P sq xs v = 0 then (plusL P v (projL P sq sq.length xs v) (-1), 0) else ([], codeLi P sq xs v)
theorem rejR_ok {P : Int} {sq xs v : List Int} (h : codeLi P sq xs v = 0) : rejR P sq xs v = (plusL P v (projL P sq sq.length xs v) (-1), 0) := by unfold rejR; rw [if_pos h]
theorem rejR_bad {P : Int} {sq xs v : List Int} (h : ¬ codeLi P sq xs v = 0) : rejR P sq xs v = ([], codeLi P sq xs v) := by unfold rejR; rw [if_neg h]
/-- ReflectInBlade. -/
def rflR (P : Int) (sq : List Int) (xs : List Int) (v : List Int) : List Int × Int := if codeLi P sq xs v = 0 then (plusL P (scaleL P (projL P sq sq.length xs v) 2) v (-1), 0) else ([], codeLi P sq xs v)
theorem rflR_ok {P : Int} {sq xs v : List Int} (h : codeLi P sq xs v = 0) : rflR P sq xs v = (plusL P (scaleL P (projL P sq sq.length xs v) 2) v (-1), 0) := by unfold rflR; rw [if_pos h]
theorem rflR_bad {P : Int} {sq xs v : List Int} (h : ¬ codeLi P sq xs v = 0) : rflR P sq xs v = ([], codeLi P sq xs v) := by unfold rflR; rw [if_neg h]
theorem prR_len (P : Int) (sq xs v : List Int) : (prR P sq xs v).1.length ≤ 1048576 := by
  by_cases h : codeLi P sq xs v = 0
  · obtain ⟨_, _, _, _, h6, _, _⟩ := codeM_spec3 (codeLv_zero (codeLi_zero h).1).1
    rw [prR_ok h]
    show (projL _ _ _ _ _).length ≤ _
    rw [projL_len]; omega
  · rw [prR_bad h]; simp
set_option maxHeartbeats 3200000 in
set_option maxRecDepth 8000 in
theorem RejectFrom_any (P : Int) (A : Option Addr) (n c : Nat) (sq : List Int) (X : Option Addr) (m cx : Nat) (xs : List Int) (Y : Option Addr) (l cy : Nat) (ys : List Int) (w : World) (hn : n ≤ 1048576) (hm : m ≤ 1048576) (hl : l ≤ 1048576) (ha : Rd w A n (ints sq)) (hx : Rd w X m (ints xs)) (hcx : m ≤ cx) (hy : Rd w Y l (ints ys)) (hcy : l ≤ cy) :
    Calls Tryz.prog 97 #[.agg #[.int .i64 P, .slice A n c], .slice X m cx, .slice Y l cy] w fun e w' => ∃ (A' : Option Addr) (k c' : Nat), e = .returned (.tuple #[.slice A' k c', .int .i64 (rejR P sq xs ys).2]) ∧ MkI w w' A' k c' (rejR P sq xs ys).1 := by
  have hB0 : Below w.heap.size w (w.alloc (.cells #[.int .i64 P, .slice A n c] 26)) := (Below.refl _ _).alloc (Nat.le_refl _) _
  have k0 : Blk (w.alloc (.cells #[.int .i64 P, .slice A n c] 26)) w.heap.size 26 #[.int .i64 P, .slice A n c] := Blk.new _ _ _
  obtain ⟨q0, q1⟩ := k0.two
  have hcall := projection_any P A n c sq X m cx xs Y l cy ys (w.alloc (.cells #[.int .i64 P, .slice A n c] 26)) hn hm hl (ha.below hB0) (hx.below hB0) hcx (hy.below hB0) hcy
  by_cases hr0 : codeLi P sq xs ys = 0
  · simp only [prR_ok hr0] at hcall
    have HR0 := Lib.hid hr0
    obtain ⟨hcv0, hsq0⟩ := codeLi_zero hr0
    obtain ⟨hcM, hve, hbl0⟩ := codeLv_zero hcv0
    obtain ⟨hly0, hys0⟩ := isVe_spec3 hve
    have hly : n = l := by rw [← hy.lenI, hly0, ha.lenI]
    subst hly
    have HYS := Lib.hid hys0
    have HSQ0 := Lib.hid hsq0
    clear hve hbl0 hly0 hys0 hcv0 hsq0
    clear hr0
    obtain ⟨HP, hp, hp2, hd1, hd2, hs0, hms⟩ := codeM_spec3 hcM
    have hsl := ha.lenI
    obtain ⟨hx1, hxs0⟩ := hms xs (by simp)
    have hmx : m = pw n := by rw [← hx.lenI, hx1, hsl]
    subst hmx
    have HSL := Lib.hid hsl
    have HS0 := Lib.hid hs0
    have HXS := Lib.hid hxs0
    have hn6 : n ≤ 6 := by omega
    have hn0 : 0 < n := by omega
    clear hsl hms hx1 hs0 hxs0 hd1 hd2 hcM
    have HPN := Lib.hid (projL_nums hp sq n xs ys)
    have HRR : Hid (rejR P sq xs ys = (plusL P ys (projL P sq n xs ys) (-1), 0)) := Lib.hid (by rw [rejR_ok HR0.out, HSL.out])
    have HPL := Lib.hid (projL_len P sq n xs ys)
    rw [HSL.out] at hcall
    obtain ⟨PL, hPL⟩ : ∃ L, L = projL P sq n xs ys := ⟨_, rfl⟩
    rw [← hPL] at hcall HPN HRR HPL
    clear hPL
    go_enter Tryz.func97, Tryz.ntmps97
    go_wp2_with fail
    refine hcall.mono ?_
    rintro e w2 ⟨A2, k2', c2, rfl, hM⟩
    have hk2 : n = k2' := by have := Rd.lenI hM.rd; rw [HPL.out] at this; exact this
    subst hk2
    have hB2 := hB0.trans (hM.b.mono hB0.size)
    have k2 := k0.below hM.b k0.lt
    obtain ⟨q0, q1⟩ := k2.two
    clear hcall k0
    go_wp2_with fail
    refine (field_any _ _ _ _ _).mono ?_
    rintro e w3 ⟨rfl, hb3⟩
    go_wp2_with fail
    refine (plus_any P Y n cy A2 n c2 (-1) ys PL _ hp hp2 (by omega) (Nat.le_refl _) ((hy.below hB2).below hb3) HYS.out (hM.rd.below hb3) HPN.out (by omega) (by omega)).mono ?_
    rintro e w4 ⟨A4, c4, rfl, hM4⟩
    go_wp2
    go_ret2
    exact aRow3 HRR.out (hM4.after (hB2.trans (hb3.mono hB2.size)))
  · have hc : (prR P sq xs ys).1 = [] ∧ (prR P sq xs ys).2 = codeLi P sq xs ys := by rw [prR_bad hr0]; exact ⟨rfl, rfl⟩
    have HRB := Lib.hid (show rejR P sq xs ys = ([], codeLi P sq xs ys) from rejR_bad hr0)
    have b0 : (codeLi P sq xs ys != 0) = true := code_ne hr0
    rw [hc.2] at hcall
    obtain ⟨r, hr⟩ : ∃ r, r = codeLi P sq xs ys := ⟨_, rfl⟩
    rw [← hr] at hcall b0 HRB
    clear hr hr0 hc
    go_enter Tryz.func97, Tryz.ntmps97
    go_wp2_with fail
    refine hcall.mono ?_
    rintro e w2 ⟨A2, k2, c2, rfl, hM⟩
    go_wp2
    go_ret2
    exact noRow3 HRB.out (hB0.trans (hM.b.mono hB0.size))
set_option maxHeartbeats 3200000 in
set_option maxRecDepth 8000 in
theorem ReflectInBlade_any (P : Int) (A : Option Addr) (n c : Nat) (sq : List Int) (X : Option Addr) (m cx : Nat) (xs : List Int) (Y : Option Addr) (l cy : Nat) (ys : List Int) (w : World) (hn : n ≤ 1048576) (hm : m ≤ 1048576) (hl : l ≤ 1048576) (ha : Rd w A n (ints sq)) (hx : Rd w X m (ints xs)) (hcx : m ≤ cx) (hy : Rd w Y l (ints ys)) (hcy : l ≤ cy) :
    Calls Tryz.prog 98 #[.agg #[.int .i64 P, .slice A n c], .slice X m cx, .slice Y l cy] w fun e w' => ∃ (A' : Option Addr) (k c' : Nat), e = .returned (.tuple #[.slice A' k c', .int .i64 (rflR P sq xs ys).2]) ∧ MkI w w' A' k c' (rflR P sq xs ys).1 := by
  have hB0 : Below w.heap.size w (w.alloc (.cells #[.int .i64 P, .slice A n c] 26)) := (Below.refl _ _).alloc (Nat.le_refl _) _
  have k0 : Blk (w.alloc (.cells #[.int .i64 P, .slice A n c] 26)) w.heap.size 26 #[.int .i64 P, .slice A n c] := Blk.new _ _ _
  obtain ⟨q0, q1⟩ := k0.two
  have hcall := projection_any P A n c sq X m cx xs Y l cy ys (w.alloc (.cells #[.int .i64 P, .slice A n c] 26)) hn hm hl (ha.below hB0) (hx.below hB0) hcx (hy.below hB0) hcy
  by_cases hr0 : codeLi P sq xs ys = 0
  · simp only [prR_ok hr0] at hcall
    have HR0 := Lib.hid hr0
    obtain ⟨hcv0, hsq0⟩ := codeLi_zero hr0
    obtain ⟨hcM, hve, hbl0⟩ := codeLv_zero hcv0
    obtain ⟨hly0, hys0⟩ := isVe_spec3 hve
    have hly : n = l := by rw [← hy.lenI, hly0, ha.lenI]
    subst hly
    have HYS := Lib.hid hys0
    have HSQ0 := Lib.hid hsq0
    clear hve hbl0 hly0 hys0 hcv0 hsq0
    clear hr0
    obtain ⟨HP, hp, hp2, hd1, hd2, hs0, hms⟩ := codeM_spec3 hcM
    have hsl := ha.lenI
    obtain ⟨hx1, hxs0⟩ := hms xs (by simp)
    have hmx : m = pw n := by rw [← hx.lenI, hx1, hsl]
    subst hmx
    have HSL := Lib.hid hsl
    have HS0 := Lib.hid hs0
    have HXS := Lib.hid hxs0
    have hn6 : n ≤ 6 := by omega
    have hn0 : 0 < n := by omega
    clear hsl hms hx1 hs0 hxs0 hd1 hd2 hcM
    have HPN := Lib.hid (projL_nums hp sq n xs ys)
    have HRR : Hid (rflR P sq xs ys = (plusL P (scaleL P (projL P sq n xs ys) 2) ys (-1), 0)) := Lib.hid (by rw [rflR_ok HR0.out, HSL.out])
    have HPL := Lib.hid (projL_len P sq n xs ys)
    rw [HSL.out] at hcall
    obtain ⟨PL, hPL⟩ : ∃ L, L = projL P sq n xs ys := ⟨_, rfl⟩
    rw [← hPL] at hcall HPN HRR HPL
    clear hPL
    go_enter Tryz.func98, Tryz.ntmps98
    go_wp2_with fail
    refine hcall.mono ?_
    rintro e w2 ⟨A2, k2', c2, rfl, hM⟩
    have hk2 : n = k2' := by have := Rd.lenI hM.rd; rw [HPL.out] at this; exact this
    subst hk2
    have hB2 := hB0.trans (hM.b.mono hB0.size)
    have k2 := k0.below hM.b k0.lt
    obtain ⟨q0, q1⟩ := k2.two
    clear hcall k0
    have HM := Lib.hid hM
    have HY := Lib.hid (hy.below hB2)
    clear hM
    go_wp2
    refine wp_obs 10 [[], [0], [], [2], [], [2, 3, 4], [], [0, 1, 2, 3, 4, 5, 6], [0, 1, 2, 3, 4, 5, 6, 7], []] [VIs (.agg #[.int .i64 P, .slice A n c]), VIs (.int .i64 (P)), VIs (.agg #[.int .i64 P, .slice A n c]), VIs (.int .i64 (P)), VIs (.slice A2 n c2), VSl w2 n (scaleL P PL 2), VIs (.slice Y n cy), VSl w2 n (plusL P (scaleL P PL 2) ys (-1)), VSl w2 n (plusL P (scaleL P PL 2) ys (-1)), VIs (.int .i64 0)] (fun w' => Blk w' w.heap.size 26 #[.int .i64 P, .slice A n c] ∧ Below w2.heap.size w2 w') (by kernel_rfl) (by kernel_rfl) (fun _ _ h hb => ⟨h.1.below hb h.1.lt, h.2.trans (hb.mono h.2.size)⟩) (⟨k2.drew, (Below.refl _ _).drew⟩) (fun x => ?_)
    refine obs_step (Eq.trans (by simp only [List.getElem?_toArray, List.getElem?_cons_zero]; exact rfl) rfl) rfl (fun w' hS hV K hK => ?_) ?_
    · obtain ⟨q0, q1⟩ := hS.1.two
      go_simp
      exact hK.out _ _ _ rfl rfl rfl (Below.refl _ _)
    simp only [List.setIfInBounds_toArray, List.set_cons_zero, List.set_cons_succ]
    refine obs_step (Eq.trans (by simp only [List.getElem?_toArray, List.getElem?_cons_succ, List.getElem?_cons_zero]; exact rfl) rfl) rfl (fun w' hS hV K hK => ?_) ?_
    · have e0 : x 0 = (.agg #[.int .i64 P, .slice A n c]) := hV 0 (by decide)
      obtain ⟨q0, q1⟩ := hS.1.two
      go_simp
      refine (field_any _ _ _ _ _).mono ?_
      rintro e v1 ⟨rfl, hb⟩
      exact hK.out _ _ _ rfl rfl rfl hb
    simp only [List.setIfInBounds_toArray, List.set_cons_zero, List.set_cons_succ]
    refine obs_step (Eq.trans (by simp only [List.getElem?_toArray, List.getElem?_cons_succ, List.getElem?_cons_zero]; exact rfl) rfl) rfl (fun w' hS hV K hK => ?_) ?_
    · obtain ⟨q0, q1⟩ := hS.1.two
      go_simp
      exact hK.out _ _ _ rfl rfl rfl (Below.refl _ _)
    simp only [List.setIfInBounds_toArray, List.set_cons_zero, List.set_cons_succ]
    refine obs_step (Eq.trans (by simp only [List.getElem?_toArray, List.getElem?_cons_succ, List.getElem?_cons_zero]; exact rfl) rfl) rfl (fun w' hS hV K hK => ?_) ?_
    · have e2 : x 2 = (.agg #[.int .i64 P, .slice A n c]) := hV 2 (by decide)
      obtain ⟨q0, q1⟩ := hS.1.two
      go_simp
      refine (field_any _ _ _ _ _).mono ?_
      rintro e v1 ⟨rfl, hb⟩
      exact hK.out _ _ _ rfl rfl rfl hb
    simp only [List.setIfInBounds_toArray, List.set_cons_zero, List.set_cons_succ]
    refine obs_step (Eq.trans (by simp only [List.getElem?_toArray, List.getElem?_cons_succ, List.getElem?_cons_zero]; exact rfl) rfl) rfl (fun w' hS hV K hK => ?_) ?_
    · obtain ⟨q0, q1⟩ := hS.1.two
      go_simp
      exact hK.out _ _ _ rfl rfl rfl (Below.refl _ _)
    simp only [List.setIfInBounds_toArray, List.set_cons_zero, List.set_cons_succ]
    refine obs_step (Eq.trans (by simp only [List.getElem?_toArray, List.getElem?_cons_succ, List.getElem?_cons_zero]; exact rfl) rfl) rfl (fun w' hS hV K hK => ?_) ?_
    · have e2 : x 2 = (.agg #[.int .i64 P, .slice A n c]) := hV 2 (by decide)
      have e3 : x 3 = (.int .i64 (P)) := hV 3 (by decide)
      have e4 : x 4 = (.slice A2 n c2) := hV 4 (by decide)
      obtain ⟨q0, q1⟩ := hS.1.two
      go_simp
      refine (scaled_any P A2 n c2 2 PL _ hp hp2 (by omega) (HM.out.rd.below hS.2) HPN.out (by omega) (by omega)).mono ?_
      rintro e v1 ⟨A2, c2, rfl, hM⟩
      exact hK.out _ _ _ rfl rfl ⟨_, _, rfl, hM.after hS.2⟩ hM.b
    simp only [List.setIfInBounds_toArray, List.set_cons_zero, List.set_cons_succ]
    refine obs_step (Eq.trans (by simp only [List.getElem?_toArray, List.getElem?_cons_succ, List.getElem?_cons_zero]; exact rfl) rfl) rfl (fun w' hS hV K hK => ?_) ?_
    · obtain ⟨q0, q1⟩ := hS.1.two
      go_simp
      exact hK.out _ _ _ rfl rfl rfl (Below.refl _ _)
    simp only [List.setIfInBounds_toArray, List.set_cons_zero, List.set_cons_succ]
    refine obs_step (Eq.trans (by simp only [List.getElem?_toArray, List.getElem?_cons_succ, List.getElem?_cons_zero]; exact rfl) rfl) rfl (fun w' hS hV K hK => ?_) ?_
    · have e0 : x 0 = (.agg #[.int .i64 P, .slice A n c]) := hV 0 (by decide)
      have e1 : x 1 = (.int .i64 (P)) := hV 1 (by decide)
      have e2 : x 2 = (.agg #[.int .i64 P, .slice A n c]) := hV 2 (by decide)
      have e3 : x 3 = (.int .i64 (P)) := hV 3 (by decide)
      have e4 : x 4 = (.slice A2 n c2) := hV 4 (by decide)
      obtain ⟨A5, c5, e5, h5⟩ := hV 5 (by decide)
      have e6 : x 6 = (.slice Y n cy) := hV 6 (by decide)
      obtain ⟨q0, q1⟩ := hS.1.two
      go_simp
      refine (plus_any P _ n _ Y n cy (-1) (scaleL P PL 2) ys _ hp hp2 (by omega) (Nat.le_refl _) h5.rd (scaleL_nums (by omega) _ _) (HY.out.below hS.2) HYS.out (by omega) (by omega)).mono ?_
      rintro e v1 ⟨A2, c2, rfl, hM⟩
      exact hK.out _ _ _ rfl rfl ⟨_, _, rfl, hM.after hS.2⟩ hM.b
    simp only [List.setIfInBounds_toArray, List.set_cons_zero, List.set_cons_succ]
    refine obs_step (Eq.trans (by simp only [List.getElem?_toArray, List.getElem?_cons_succ, List.getElem?_cons_zero]; exact rfl) rfl) rfl (fun w' hS hV K hK => ?_) ?_
    · have e0 : x 0 = (.agg #[.int .i64 P, .slice A n c]) := hV 0 (by decide)
      have e1 : x 1 = (.int .i64 (P)) := hV 1 (by decide)
      have e2 : x 2 = (.agg #[.int .i64 P, .slice A n c]) := hV 2 (by decide)
      have e3 : x 3 = (.int .i64 (P)) := hV 3 (by decide)
      have e4 : x 4 = (.slice A2 n c2) := hV 4 (by decide)
      obtain ⟨A5, c5, e5, h5⟩ := hV 5 (by decide)
      have e6 : x 6 = (.slice Y n cy) := hV 6 (by decide)
      obtain ⟨A7, c7, e7, h7⟩ := hV 7 (by decide)
      obtain ⟨q0, q1⟩ := hS.1.two
      go_simp
      exact hK.out _ _ _ rfl rfl ⟨_, _, rfl, h7⟩ (Below.refl _ _)
    simp only [List.setIfInBounds_toArray, List.set_cons_zero, List.set_cons_succ]
    refine obs_step (Eq.trans (by simp only [List.getElem?_toArray, List.getElem?_cons_succ, List.getElem?_cons_zero]; exact rfl) rfl) rfl (fun w' hS hV K hK => ?_) ?_
    · obtain ⟨q0, q1⟩ := hS.1.two
      go_simp
      exact hK.out _ _ _ rfl rfl rfl (Below.refl _ _)
    simp only [List.setIfInBounds_toArray, List.set_cons_zero, List.set_cons_succ]
    refine fun w' hS hV => ?_
    have e0 : x 0 = (.agg #[.int .i64 P, .slice A n c]) := hV 0 (by decide)
    have e1 : x 1 = (.int .i64 (P)) := hV 1 (by decide)
    have e2 : x 2 = (.agg #[.int .i64 P, .slice A n c]) := hV 2 (by decide)
    have e3 : x 3 = (.int .i64 (P)) := hV 3 (by decide)
    have e4 : x 4 = (.slice A2 n c2) := hV 4 (by decide)
    obtain ⟨A5, c5, e5, h5⟩ := hV 5 (by decide)
    have e6 : x 6 = (.slice Y n cy) := hV 6 (by decide)
    obtain ⟨A7, c7, e7, h7⟩ := hV 7 (by decide)
    obtain ⟨A8, c8, e8, h8⟩ := hV 8 (by decide)
    have e9 : x 9 = (.int .i64 0) := hV 9 (by decide)
    simp only [e0, e1, e2, e3, e4, e5, e6, e7, e8, e9]
    clear e0 e1 e2 e3 e4 e5 e6 e7 e8 e9
    refine wpAny_done (by kernel_rfl) ?_ _
    go_wp2
    go_ret2
    exact aRow3 HRR.out (h8.after hB2)
  · have hc : (prR P sq xs ys).1 = [] ∧ (prR P sq xs ys).2 = codeLi P sq xs ys := by rw [prR_bad hr0]; exact ⟨rfl, rfl⟩
    have HRB := Lib.hid (show rflR P sq xs ys = ([], codeLi P sq xs ys) from rflR_bad hr0)
    have b0 : (codeLi P sq xs ys != 0) = true := code_ne hr0
    rw [hc.2] at hcall
    obtain ⟨r, hr⟩ : ∃ r, r = codeLi P sq xs ys := ⟨_, rfl⟩
    rw [← hr] at hcall b0 HRB
    clear hr hr0 hc
    go_enter Tryz.func98, Tryz.ntmps98
    go_wp2_with fail
    refine hcall.mono ?_
    rintro e w2 ⟨A2, k2, c2, rfl, hM⟩
    go_wp2
    go_ret2
    exact noRow3 HRB.out (hB0.trans (hM.b.mono hB0.size))
end Go.Proofs.YtggigolkncckoaaGreat
namespace Go.Proofs.YtggigolkncckoaaGreat
section
variable {p : Int} {n : Nat}
/-- Another basis whose vectors are orthogonal to each other. -/
theorem orth_basis (hp : 0 < p) (hP : isP p = true) (sq : List Int) (hn : sq.length = n) : ∀ (k : Nat) (B : List (List Int)), B.length = k → Tab p n B →
    ∃ U : List (List Int), U.length = k ∧ Tab p n U ∧ (∃ c : Int, c % p ≠ 0 ∧ (Cl.prod hp U : Cl p (zs n)) = c * Cl.prod hp B) ∧ U.Pairwise (fun a b => bil sq a b % p = 0) ∧
      ∀ u : List Int, (∀ w ∈ B, bil sq w u % p = 0) → ∀ w ∈ U, bil sq w u % p = 0 := by
  have h3 := isP_ge hP
  have h1p : (1 : Int) % p ≠ 0 := by rw [Int.emod_eq_of_lt (by omega) (by omega)]; decide
  intro k
  induction k with
  | zero =>
    intro B hB _
    obtain rfl := List.eq_nil_of_length_eq_zero hB
    exact ⟨[], rfl, Tab.nil _ _, ⟨1, h1p, (Cl.one_sm _).symm⟩, List.Pairwise.nil, fun u h => h⟩
  | succ k ih =>
    -- a first vector with a norm other than 0
    have lead : ∀ (v : List Int) (R : List (List Int)), R.length = k → Tab p n (v :: R) → bil sq v v % p ≠ 0 → ∃ U : List (List Int), U.length = k + 1 ∧ Tab p n U ∧ (∃ c : Int, c % p ≠ 0 ∧ (Cl.prod hp U : Cl p (zs n)) = c * Cl.prod hp (v :: R)) ∧ U.Pairwise (fun a b => bil sq a b % p = 0) ∧
        ∀ u : List Int, (∀ w ∈ v :: R, bil sq w u % p = 0) → ∀ w ∈ U, bil sq w u % p = 0 := by
      intro v R hR hT hv
      have hTv := hT v (by simp)
      have hTR : Tab p n R := fun w hw => hT w (List.mem_cons_of_mem _ hw)
      -- the others, made orthogonal to it
      obtain ⟨f, hf⟩ : ∃ f : List Int → List Int, f = fun w => plusL p w v (-(bil sq w v * invF p (bil sq v v % p))) := ⟨_, rfl⟩
      have hfT : Tab p n (R.map f) := fun w hw => by
        obtain ⟨w0, h0, rfl⟩ := List.mem_map.1 hw
        rw [hf]; exact ⟨by rw [plusL_len, (hTR w0 h0).1], plusL_nums hp _ _ _⟩
      have hfo : ∀ w ∈ R, bil sq (f w) v % p = 0 := fun w hw => by
        rw [hf, bil_plus ((hTR w hw).1.trans hn.symm)]
        have hi := inv_mod hP hv
        have e : bil sq v v * invF p (bil sq v v % p) % p = 1 % p := by rw [hi, Int.emod_eq_of_lt (by omega) (by omega)]
        obtain ⟨t, ht⟩ := cg_wit.1 e
        refine (cg_wit.2 ⟨-(bil sq w v * t), ?_⟩).trans (Int.zero_emod p)
        obtain ⟨a, ha⟩ : ∃ a, a = bil sq w v := ⟨_, rfl⟩
        obtain ⟨b, hb⟩ : ∃ b, b = bil sq v v := ⟨_, rfl⟩
        obtain ⟨i, hi2⟩ : ∃ i, i = invF p (bil sq v v % p) := ⟨_, rfl⟩
        rw [← hi2, ← hb] at ht
        rw [← ha, ← hi2, ← hb]
        have e2 : -(a * i) * b = -(a * (b * i)) := by grind
        rw [e2, ht]; grind
      have hfu : ∀ u : List Int, (∀ w ∈ v :: R, bil sq w u % p = 0) → ∀ w ∈ R.map f, bil sq w u % p = 0 := fun u hu w hw => by
        obtain ⟨w0, h0, rfl⟩ := List.mem_map.1 hw
        rw [hf, bil_plus ((hTR w0 h0).1.trans hn.symm)]
        obtain ⟨s, hs⟩ := cg_wit.1 ((hu w0 (List.mem_cons_of_mem _ h0)).trans (Int.zero_emod p).symm)
        obtain ⟨t, ht⟩ := cg_wit.1 ((hu v (by simp)).trans (Int.zero_emod p).symm)
        rw [hs, ht]
        refine (cg_wit.2 ⟨s + -(bil sq w0 v * invF p (bil sq v v % p)) * t, ?_⟩).trans (Int.zero_emod p)
        grind
      have hprod : ∀ S : List (List Int), Tab p n S → (Cl.vec hp v : Cl p (zs n)) * Cl.prod hp (S.map f) = Cl.vec hp v * Cl.prod hp S := by
        intro S
        induction S with
        | nil => intro _; rfl
        | cons w S ihS =>
          intro hS
          have hw := hS w (by simp)
          rw [List.map_cons, Cl.prod_cons, Cl.prod_cons]
          have e1 : (Cl.vec hp v : Cl p (zs n)) * Cl.vec hp (f w) = Cl.vec hp v * Cl.vec hp w := by
            rw [hf, Cl.vec_plus hp (hw.1.trans (zs_len n).symm), Cl.mul_add, Cl.mul_sm, Cl.zz hp hP, Cl.sm_zero, Cl.add_zero]
          rw [← Cl.mul_assoc, e1, Cl.za hp v w, Cl.sm_mul, Cl.mul_assoc, ihS fun y hy => hS y (List.mem_cons_of_mem _ hy), ← Cl.mul_assoc, ← Cl.sm_mul, ← Cl.za hp v w, Cl.mul_assoc]
      obtain ⟨U, u1, u2, ⟨c, hc, u3⟩, u4, u5⟩ := ih (R.map f) (by rw [List.length_map, hR]) hfT
      refine ⟨v :: U, by simp [u1], ?_, ⟨c, hc, ?_⟩, ?_, ?_⟩
      · intro w hw
        rcases List.mem_cons.1 hw with rfl | hw
        · exact hTv
        · exact u2 w hw
      · rw [Cl.prod_cons, Cl.prod_cons, u3, Cl.mul_sm, hprod R hTR]
      · refine List.pairwise_cons.2 ⟨fun w hw => ?_, u4⟩
        rw [bil_symm]
        exact u5 v (fun y hy => by
          obtain ⟨w0, h0, rfl⟩ := List.mem_map.1 hy
          exact hfo w0 h0) w hw
      · intro u hu w hw
        rcases List.mem_cons.1 hw with rfl | hw
        · exact hu _ (by simp)
        · exact u5 u (hfu u hu) w hw
    -- some vector with a norm other than 0
    have any : ∀ B : List (List Int), B.length = k + 1 → Tab p n B → (∃ i, i < B.length ∧ bil sq (B.getD i []) (B.getD i []) % p ≠ 0) → ∃ U : List (List Int), U.length = k + 1 ∧ Tab p n U ∧ (∃ c : Int, c % p ≠ 0 ∧ (Cl.prod hp U : Cl p (zs n)) = c * Cl.prod hp B) ∧ U.Pairwise (fun a b => bil sq a b % p = 0) ∧
        ∀ u : List Int, (∀ w ∈ B, bil sq w u % p = 0) → ∀ w ∈ U, bil sq w u % p = 0 := by
      rintro B hB hT ⟨i, hi, hne⟩
      have h0 : 0 < B.length := by omega
      have hs := Cl.prod_swap' hp hP hT h0 hi
      have hsT := swapL_tab hT h0 hi
      have hsl : (swapL B 0 i).length = k + 1 := by rw [swapL_len, hB]
      have hs0 : (swapL B 0 i).getD 0 [] = B.getD i [] := by
        unfold swapL
        rw [getD_set]
        by_cases h : i = 0
        · rw [if_pos ⟨h, by rw [List.length_set]; exact hi⟩, h]
        · rw [if_neg fun e => h e.1, getD_set, if_pos ⟨rfl, h0⟩]
      have hsm : ∀ w ∈ swapL B 0 i, w ∈ B := fun w hw => by
        unfold swapL at hw
        rcases List.mem_or_eq_of_mem_set hw with h | rfl
        · rcases List.mem_or_eq_of_mem_set h with h | rfl
          · exact h
          · exact getD_mem [] hi
        · exact getD_mem [] h0
      match hL : swapL B 0 i, hsl, hs0 with
      | v :: R, hsl, hs0 =>
        rw [hL] at hs hsT hsm
        have hv : v = B.getD i [] := hs0
        obtain ⟨U, u1, u2, ⟨c, hc, u3⟩, u4, u5⟩ := lead v R (by simpa using hsl) hsT (by rw [hv]; exact hne)
        exact ⟨U, u1, u2, ⟨c * swSg 0 i, mul_ne hP hc (swSg_ne hP _ _), by rw [u3, hs, Cl.sm_sm]⟩, u4, fun u hu => u5 u fun w hw => hu w (hsm w hw)⟩
    intro B hB hT
    by_cases h1 : ∃ i, i < B.length ∧ bil sq (B.getD i []) (B.getD i []) % p ≠ 0
    · exact any B hB hT h1
    · by_cases h2 : ∃ i j, i < B.length ∧ j < B.length ∧ i ≠ j ∧ bil sq (B.getD i []) (B.getD j []) % p ≠ 0
      · obtain ⟨i, j, hi, hj, hij, hne⟩ := h2
        have z : ∀ a, a < B.length → bil sq (B.getD a []) (B.getD a []) % p = 0 := fun a ha => Classical.byContradiction fun h => h1 ⟨a, ha, h⟩
        obtain ⟨s, hs⟩ : ∃ s, s = plusL p (B.getD i []) (B.getD j []) 1 := ⟨_, rfl⟩
        have hpr := Cl.prod_plus hp hP hT hi hj hij 1
        rw [← hs] at hpr
        have hsT : s.length = n ∧ NumsL p s := by rw [hs]; exact ⟨by rw [plusL_len, (hT.row hi).1], plusL_nums hp _ _ _⟩
        have hli := (hT.row hi).1.trans hn.symm
        obtain ⟨U, u1, u2, ⟨c, hc, u3⟩, u4, u5⟩ := any (B.set i s) (by rw [List.length_set, hB]) (hT.set i hsT) ⟨i, by rw [List.length_set]; exact hi, by
          rw [getD_set, if_pos ⟨rfl, hi⟩, hs, bil_plus2 hli]
          obtain ⟨a, ha⟩ := cg_wit.1 ((z i hi).trans (Int.zero_emod p).symm)
          obtain ⟨b, hb⟩ := cg_wit.1 ((z j hj).trans (Int.zero_emod p).symm)
          rw [ha, hb]
          intro h
          obtain ⟨t, ht⟩ := cg_wit.1 (h.trans (Int.zero_emod p).symm)
          have h2n : 2 * bil sq (B.getD i []) (B.getD j []) % p ≠ 0 := mul_ne hP (by rw [Int.emod_eq_of_lt (by omega) (by omega)]; decide) hne
          refine h2n ((cg_wit.2 ⟨t - a - b, ?_⟩).trans (Int.zero_emod p))
          rw [bil_symm] at ht
          grind⟩
        refine ⟨U, u1, u2, ⟨c, hc, by rw [u3, hpr]⟩, u4, fun u hu => u5 u fun w hw => ?_⟩
        rcases List.mem_or_eq_of_mem_set hw with h | rfl
        · exact hu w h
        · rw [hs, bil_plus hli]
          obtain ⟨a, ha⟩ := cg_wit.1 ((hu _ (getD_mem [] hi)).trans (Int.zero_emod p).symm)
          obtain ⟨b, hb⟩ := cg_wit.1 ((hu _ (getD_mem [] hj)).trans (Int.zero_emod p).symm)
          rw [ha, hb]
          exact (cg_wit.2 ⟨a + b, by grind⟩).trans (Int.zero_emod p)
      · refine ⟨B, hB, hT, ⟨1, h1p, (Cl.one_sm _).symm⟩, ?_, fun u h => h⟩
        refine List.pairwise_iff_getElem.2 fun i j hi hj hij => Classical.byContradiction fun h => h2 ⟨i, j, hi, hj, by omega, ?_⟩
        rw [getD_of_lt [] hi, getD_of_lt [] hj]; exact h
theorem vec_sg : ∀ b : Nat, b < 64 → ∀ i : Nat, i < 6 → (swn b (2 ^ i) 6 + pcn b 6 + swn (2 ^ i) b 6) % 2 = (if b.testBit i then 1 else 0) := by decide +kernel
theorem facZ_vec {sq : List Int} (hn : sq.length ≤ 6) {b i : Nat} (hb : b < pw sq.length) (hi : i < sq.length) : sgI b * facZ sq b (2 ^ i) = (if b.testBit i then -1 else 1) * facZ sq (2 ^ i) b := by
  have h64 : ∀ {x}, x < pw sq.length → x < 64 := fun h => Nat.lt_of_lt_of_le h (pw_le (k := 6) hn)
  unfold facZ
  rw [comZ_symm sq b (2 ^ i), ← Int.mul_assoc, ← Int.mul_assoc]
  congr 1
  have e : (if b.testBit i then (-1 : Int) else 1) = sg (if b.testBit i then 1 else 0) := by cases b.testBit i <;> rfl
  rw [e, sgI_sg, ← sg_add, ← sg_add]
  apply sg_congr
  rw [swaps_six hn hb (two_lt hi), swaps_six hn (two_lt hi) hb, pc_pcn 6 b (h64 hb)]
  have h := vec_sg b (h64 hb) i (by omega)
  obtain ⟨t, ht⟩ : ∃ t : Nat, t = if b.testBit i then 1 else 0 := ⟨_, rfl⟩
  rw [← ht] at h ⊢
  omega
end
end Go.Proofs.YtggigolkncckoaaGreat
namespace Go.Proofs.YtggigolkncckoaaGreat
section
variable {p : Int} {sq : List Int}
theorem Cl.mul_vec_co (hp : 0 < p) (v : List Int) (y : Cl p sq) {m : Nat} (hm : m < pw sq.length) : (y * Cl.vec hp v : Cl p sq).co m % p = (sumTo sq.length fun i => v.getD i 0 * y.co (2 ^ i ^^^ m) * facZ sq (2 ^ i ^^^ m) (2 ^ i)) % p := by
  rw [Cl.mul_co _ _ hm, mulZ_cg p sq (fun a ha => rfl) (fun a ha => Cl.vec_co hp v ha) hm]
  unfold mulZ
  rw [sumTo_xor _ hm, sumTo_congr (g := fun a => sumTo sq.length fun i => if a = 2 ^ i then v.getD i 0 * y.co (2 ^ i ^^^ m) * facZ sq (2 ^ i ^^^ m) (2 ^ i) else 0) fun a ha => ?_, sumTo_comm]
  · congr 1
    refine sumTo_congr fun i hi => ?_
    rw [sumTo_one (2 ^ i) (two_lt hi) fun a _ hne => if_neg hne, if_pos rfl]
  · rw [xor_self_right, Int.mul_comm (y.co _), ← sumTo_mul_right, ← sumTo_mul_right]
    refine sumTo_congr fun i _ => ?_
    by_cases h : a = 2 ^ i
    · rw [if_pos h, if_pos h, h]
    · rw [if_neg h, if_neg h, Int.zero_mul, Int.zero_mul]
/-- The part of a vector times a multivector that comes from one of the vector's places. -/
def vmT (sq v : List Int) (y : Nat → Int) (m i : Nat) : Int := v.getD i 0 * y (2 ^ i ^^^ m) * facZ sq (2 ^ i) (2 ^ i ^^^ m)
theorem testBit_own (i m : Nat) : (2 ^ i ^^^ m).testBit i = !m.testBit i := by
  rw [Nat.testBit_xor, Nat.testBit_two_pow_self]; cases m.testBit i <;> rfl
theorem Cl.invo_vec_co (hp : 0 < p) (h6 : sq.length ≤ 6) (v : List Int) (y : Cl p sq) {m : Nat} (hm : m < pw sq.length) : (y.invo * Cl.vec hp v : Cl p sq).co m % p = (sumTo sq.length fun i => (if m.testBit i then 1 else -1) * vmT sq v y.co m i) % p := by
  rw [Cl.mul_vec_co hp v _ hm]
  refine sumTo_mod p fun i hi => ?_
  have hb : 2 ^ i ^^^ m < pw sq.length := xor_lt (two_lt hi) hm
  obtain ⟨b, hbb⟩ : ∃ b, b = 2 ^ i ^^^ m := ⟨_, rfl⟩
  have ht := testBit_own i m
  unfold vmT
  rw [← hbb] at hb ht ⊢
  have h1 : (v.getD i 0 * y.invo.co b) % p = (v.getD i 0 * (sgI b * y.co b)) % p := cg_mul rfl (Cl.invo_co y hb)
  refine (cg_mul h1 rfl).trans ?_
  have h2 := facZ_vec h6 hb hi
  congr 1
  have e : v.getD i 0 * (sgI b * y.co b) * facZ sq b (2 ^ i) = v.getD i 0 * y.co b * (sgI b * facZ sq b (2 ^ i)) := by grind
  rw [e, h2, ht]
  cases m.testBit i <;> simp only [Bool.not_true, Bool.not_false, if_true, if_false, Bool.false_eq_true] <;> grind
theorem Cl.wedge_co (hp : 0 < p) (v : List Int) (y : Cl p sq) (z : Cl p (zs sq.length)) (hz : z.l = y.l) {m : Nat} (hm : m < pw sq.length) : (Cl.vec hp v * z : Cl p (zs sq.length)).co m % p = (sumTo sq.length fun i => (if m.testBit i then 1 else 0) * vmT sq v y.co m i) % p := by
  rw [Cl.vec_mul_co hp v z (by rw [zs_len]; exact hm), zs_len]
  congr 1
  refine sumTo_congr fun i hi => ?_
  have e : z.co (2 ^ i ^^^ m) = y.co (2 ^ i ^^^ m) := by unfold Cl.co; rw [hz]
  unfold vmT
  rw [e]
  have h := pow_and i m
  cases ht : m.testBit i
  · rw [ht] at h
    rw [facZ_hit (two_lt hi) fun e => Bool.noConfusion (h.1 e)]
    simp
  · rw [facZ_apart (sq := sq) rfl (h.2 ht)]
    simp
theorem pow_and_self (i m : Nat) : (2 ^ i &&& (2 ^ i ^^^ m) == 2 ^ i) = !m.testBit i := by
  cases h : m.testBit i
  · have : 2 ^ i &&& (2 ^ i ^^^ m) = 2 ^ i := and_of_bits fun j hj => by
      have : i = j := by
        rw [Nat.testBit_two_pow] at hj
        simpa using hj
      subst this
      rw [testBit_own, h]; rfl
    rw [this]; simp
  · rw [(pow_and i m).2 h]
    have := Nat.two_pow_pos i
    simp; omega
theorem contr_co (hp : 0 < p) (v : List Int) (y : Cl p sq) {m : Nat} (hm : m < pw sq.length) : (contrL p sq (Cl.vec hp v : Cl p sq).l y.l).getD m 0 % p = (sumTo sq.length fun i => (if m.testBit i then 0 else 1) * vmT sq v y.co m i) % p := by
  unfold contrL
  rw [prodL_getD p sq _ _ _ sq.length m (Cl.vec hp v : Cl p sq).len y.len hm, cg_self]
  have h1 : sumTo (pw sq.length) (term p sq (fun a b => a &&& b == a) (Cl.vec hp v : Cl p sq).l y.l m) % p = sumTo (pw sq.length) (fun a => sumTo sq.length fun i => if a = 2 ^ i then (if m.testBit i then 0 else 1) * vmT sq v y.co m i else 0) % p := sumTo_mod p fun a ha => by
    unfold term
    by_cases hh : (fun a b : Nat => a &&& b == a) a (a ^^^ m) = true
    · rw [if_pos hh]
      have e1 : (Cl.vec hp v : Cl p sq).l.getD a 0 % p = (sumTo sq.length fun i => if a = 2 ^ i then v.getD i 0 else 0) % p := Cl.vec_co hp v ha
      refine (cg_mul (cg_mul e1 (show y.l.getD (a ^^^ m) 0 % p = y.co (a ^^^ m) % p from rfl)) (fac_facZ p sq a (a ^^^ m))).trans ?_
      rw [← sumTo_mul_right, ← sumTo_mul_right]
      congr 1
      refine sumTo_congr fun i hi => ?_
      by_cases h : a = 2 ^ i
      · rw [if_pos h, if_pos h]
        subst h
        have hh2 : (2 ^ i &&& (2 ^ i ^^^ m) == 2 ^ i) = true := hh
        rw [pow_and_self] at hh2
        have ht : m.testBit i = false := by simpa using hh2
        rw [ht]
        unfold vmT
        simp
      · rw [if_neg h, if_neg h, Int.zero_mul, Int.zero_mul]
    · rw [if_neg hh, sumTo_zero fun i hi => ?_]
      by_cases h : a = 2 ^ i
      · rw [if_pos h]
        subst h
        have hh2 : ¬ (2 ^ i &&& (2 ^ i ^^^ m) == 2 ^ i) = true := hh
        rw [pow_and_self] at hh2
        have ht : m.testBit i = true := by simpa using hh2
        rw [ht]; simp
      · rw [if_neg h]
  rw [h1, sumTo_comm]
  congr 1
  refine sumTo_congr fun i hi => ?_
  rw [sumTo_one (2 ^ i) (two_lt hi) fun a _ hne => if_neg hne, if_pos rfl]
/-- Outer products with a vector. -/
theorem Cl.wedge_half (hp : 0 < p) (h6 : sq.length ≤ 6) (v : List Int) (y : Cl p sq) (z : Cl p (zs sq.length)) (hz : z.l = y.l) (W : Cl p sq) (hW : W.l = (Cl.vec hp v * z : Cl p (zs sq.length)).l) :
    Cl.vec hp v * y + y.invo * Cl.vec hp v = (2 : Int) * W := Cl.same fun m hm => by
  have hWc : W.co m = (Cl.vec hp v * z : Cl p (zs sq.length)).co m := by unfold Cl.co; rw [hW]
  rw [Cl.sm_co _ _ hm, hWc, cg_mul (rfl : (2 : Int) % p = 2 % p) (Cl.wedge_co hp v y z hz hm), Cl.add_co _ _ hm, cg_add (Cl.vec_mul_co hp v y hm) (Cl.invo_vec_co hp h6 v y hm), ← sumTo_mul, ← sumTo_add]
  congr 1
  refine sumTo_congr fun i _ => ?_
  show vmT sq v y.co m i + _ = _
  cases m.testBit i <;> simp only [if_true, if_false, Bool.false_eq_true] <;> grind
/-- Contractions by a vector. -/
theorem Cl.contr_half (hp : 0 < p) (h6 : sq.length ≤ 6) (v : List Int) (y C : Cl p sq) (hC : C.l = contrL p sq (Cl.vec hp v : Cl p sq).l y.l) :
    Cl.vec hp v * y + (-1 : Int) * (y.invo * Cl.vec hp v) = (2 : Int) * C := Cl.same fun m hm => by
  have hCc : C.co m % p = (sumTo sq.length fun i => (if m.testBit i then 0 else 1) * vmT sq v y.co m i) % p := by unfold Cl.co; rw [hC]; exact contr_co hp v y hm
  rw [Cl.sm_co _ _ hm, cg_mul (rfl : (2 : Int) % p = 2 % p) hCc, Cl.add_co _ _ hm, cg_add (Cl.vec_mul_co hp v y hm) (Cl.sm_co (-1) _ hm), Int.add_emod, cg_mul (rfl : (-1 : Int) % p = -1 % p) (Cl.invo_vec_co hp h6 v y hm), ← Int.add_emod, ← sumTo_mul, ← sumTo_mul, ← sumTo_add]
  congr 1
  refine sumTo_congr fun i _ => ?_
  show vmT sq v y.co m i + _ = _
  cases m.testBit i <;> simp only [if_true, if_false, Bool.false_eq_true] <;> grind
theorem Cl.over (hp : 0 < p) (u : List Int) : ∀ U : List (List Int), (∀ w ∈ U, bil sq w u % p = 0) → (Cl.vec hp u : Cl p sq) * Cl.prod hp U = sg U.length * (Cl.prod hp U * Cl.vec hp u) := by
  intro U
  induction U with
  | nil =>
    intro _
    show Cl.vec hp u * Cl.one hp = (1 : Int) * (Cl.one hp * Cl.vec hp u)
    rw [Cl.mul_one, Cl.one_mul, Cl.one_sm]
  | cons w U ih =>
    intro h
    have h1 : (Cl.vec hp u : Cl p sq) * Cl.vec hp w = (-1 : Int) * (Cl.vec hp w * Cl.vec hp u) := by
      have h2 := Cl.vec_anti (sq := sq) hp u w
      rw [Cl.sm_cg (j := 0) (by
        obtain ⟨t, ht⟩ := cg_wit.1 ((h w (by simp)).trans (Int.zero_emod p).symm)
        rw [bil_symm, ht]; exact cg_wit.2 ⟨2 * t, by grind⟩) (Cl.one hp), Cl.zero_sm] at h2
      rw [← Cl.one_sm (Cl.vec hp w * Cl.vec hp u)] at h2
      have h3 := Cl.move h2
      rw [h3, Cl.add_comm, Cl.add_zero]
    rw [Cl.prod_cons, ← Cl.mul_assoc, h1, Cl.sm_mul, Cl.mul_assoc, ih fun y hy => h y (List.mem_cons_of_mem _ hy), Cl.mul_sm, Cl.sm_sm, Cl.mul_assoc, List.length_cons, sg_add]
    congr 1
    show -1 * sg U.length = sg U.length * -1
    exact Int.mul_comm _ _
/-- What is known of a product of vectors that are orthogonal to each other. -/
theorem orth_prod (hp : 0 < p) (hP : isP p = true) (h6 : sq.length ≤ 6) : ∀ U : List (List Int), U.Pairwise (fun a b => bil sq a b % p = 0) →
    (Cl.prod hp U : Cl p sq).l = (Cl.prod hp U : Cl p (zs sq.length)).l ∧ (∃ g : Int, (Cl.prod hp U : Cl p sq) * Cl.prod hp U = g * Cl.one hp) ∧
      ∀ v : List Int, ∃ r : List Int, (Cl.prod hp U : Cl p sq) * Cl.vec hp v * Cl.prod hp U = Cl.vec hp r := by
  intro U
  induction U with
  | nil =>
    intro _
    have h3 := isP_ge hP
    refine ⟨?_, ⟨1, ?_⟩, fun v => ⟨v, ?_⟩⟩
    · show (Cl.one hp : Cl p sq).l = (Cl.one hp : Cl p (zs sq.length)).l
      rw [Cl.one_l (by omega), Cl.one_l (by omega), zs_len]
    · show Cl.one hp * Cl.one hp = (1 : Int) * Cl.one hp
      rw [Cl.one_mul, Cl.one_sm]
    · show Cl.one hp * Cl.vec hp v * Cl.one hp = Cl.vec hp v
      rw [Cl.one_mul, Cl.mul_one]
  | cons u U ih =>
    intro hU
    obtain ⟨hu, hU⟩ := List.pairwise_cons.1 hU
    obtain ⟨h1, ⟨g, h2⟩, h3⟩ := ih hU
    have ho := Cl.over (sq := sq) hp u U fun w hw => by rw [bil_symm]; exact hu w hw
    obtain ⟨Y, hY⟩ : ∃ Y : Cl p sq, Y = Cl.prod hp U := ⟨_, rfl⟩
    have hi := Cl.prod_invo (sq := sq) hp U
    have ho2 : Y * Cl.vec hp u = sg U.length * (Cl.vec hp u * Y) := by rw [hY, ho, Cl.sm_sm, sg_two, Cl.one_sm]
    rw [Cl.prod_cons, Cl.prod_cons]
    rw [← hY] at h1 h2 h3 ho hi ⊢
    refine ⟨?_, ⟨sg U.length * (g * bil sq u u), ?_⟩, fun v => ?_⟩
    · obtain ⟨W, hW⟩ : ∃ W : Cl p sq, W.l = (Cl.vec hp u * Cl.prod hp U : Cl p (zs sq.length)).l := ⟨⟨(Cl.vec hp u * Cl.prod hp U : Cl p (zs sq.length)).l, by rw [Cl.len, zs_len], Cl.nums _, hp⟩, rfl⟩
      have hh := Cl.wedge_half hp h6 u Y (Cl.prod hp U) h1.symm W hW
      rw [hi, Cl.sm_mul, ← ho, Cl.two] at hh
      rw [Cl.half hP hh, hW]
    · have e : Cl.vec hp u * Y * (Cl.vec hp u * Y) = sg U.length * (Cl.vec hp u * Cl.vec hp u * (Y * Y) : Cl p sq) := by
        rw [Cl.mul_assoc, ← Cl.mul_assoc Y, ho2, Cl.sm_mul, Cl.mul_sm, Cl.mul_assoc, ← Cl.mul_assoc (Cl.vec hp u) (Cl.vec hp u)]
      rw [e, h2, Cl.mul_sm, Cl.vec_sq hp hP, Cl.mul_one, Cl.sm_sm, Cl.sm_sm, Int.mul_assoc]
    · obtain ⟨r, hr⟩ := h3 v
      have e : Cl.vec hp u * Y * Cl.vec hp v * (Cl.vec hp u * Y) = sg U.length * (Cl.vec hp u * (Y * Cl.vec hp v * Y) * Cl.vec hp u : Cl p sq) := by
        have e1 : Cl.vec hp u * Y * Cl.vec hp v * (sg U.length * (Y * Cl.vec hp u)) = sg U.length * (Cl.vec hp u * (Y * Cl.vec hp v * Y) * Cl.vec hp u : Cl p sq) := by
          rw [Cl.mul_sm]; simp only [Cl.mul_assoc]
        rw [← ho] at e1
        exact e1
      rw [e, hr, Cl.vec_both hp hP, Cl.sm_add, Cl.sm_sm, Cl.sm_sm]
      refine ⟨tab sq.length fun i => ((sg U.length * (2 * bil sq u r)) * u.getD i 0 + (sg U.length * -(bil sq u u)) * r.getD i 0) % p, ?_⟩
      refine Cl.same fun m hm => ?_
      rw [Cl.add_co _ _ hm, cg_add (Cl.sm_co _ _ hm) (Cl.sm_co _ _ hm), Int.add_emod, cg_mul rfl (Cl.vec_co hp u hm), cg_mul rfl (Cl.vec_co hp r hm), ← Int.add_emod, ← sumTo_mul, ← sumTo_mul, ← sumTo_add, Cl.vec_co hp _ hm]
      refine sumTo_mod p fun i hi => ?_
      by_cases h : m = 2 ^ i
      · rw [if_pos h, if_pos h, if_pos h, tab_getD hi, cg_self]
      · rw [if_neg h, if_neg h, if_neg h, Int.mul_zero, Int.mul_zero, Int.add_zero]
end
end Go.Proofs.YtggigolkncckoaaGreat
namespace Go.Proofs.YtggigolkncckoaaGreat
section
variable {p : Int} {sq : List Int}
/-- What is known of a blade. -/
theorem blade_facts (hp : 0 < p) (hP : isP p = true) (h0 : 0 < sq.length) (h6 : sq.length ≤ 6) (X : Cl p sq) (hb : isBl p sq sq.length X.l = true) :
    X.invo = sg (subL p sq sq.length X.l).length * X ∧ (∃ g : Int, X * X = g * Cl.one hp) ∧ (∀ v : List Int, ∃ r : List Int, X * Cl.vec hp v * X = Cl.vec hp r) ∧
      (∀ v : List Int, (Sp p sq.length (subL p sq sq.length X.l) fun q => v.getD q 0) ↔ Cl.vec hp v * X + X.invo * Cl.vec hp v = Cl.zero hp) ∧
      (∀ u, subL p sq sq.length X.l = [u] → ∃ c : Int, X = c * Cl.vec hp u) := by
  have h3 := isP_ge hP
  obtain ⟨X', hX'⟩ : ∃ X' : Cl p (zs sq.length), X'.l = X.l := ⟨⟨X.l, by rw [X.len, zs_len], X.nums, hp⟩, rfl⟩
  have hT : Tab p sq.length (subL p sq sq.length X.l) := by unfold subL; exact kernL_tab (by omega) _ _
  have hown := Cl.blade_own (sq := sq) rfl h0 h6 hP hp X' (by rw [hX']; exact hb)
  rw [hX'] at hown
  obtain ⟨B, hB⟩ : ∃ B, B = subL p sq sq.length X.l := ⟨_, rfl⟩
  have hsp : ∀ v : List Int, (Sp p sq.length B fun q => v.getD q 0) ↔ Cl.vec hp v * X + X.invo * Cl.vec hp v = Cl.zero hp := fun v => by
    have h1 := sub_sp (sq := sq) rfl h0 hp hP X' v
    rw [hX', ← hB] at h1
    obtain ⟨W, hW⟩ : ∃ W : Cl p sq, W.l = (Cl.vec hp v * X' : Cl p (zs sq.length)).l := ⟨⟨(Cl.vec hp v * X' : Cl p (zs sq.length)).l, by rw [Cl.len, zs_len], Cl.nums _, hp⟩, rfl⟩
    rw [Cl.wedge_half hp h6 v X X' hX' W hW]
    refine h1.trans ⟨fun e => ?_, fun e => ?_⟩
    · have e1 : W = Cl.zero hp := Cl.same fun m hm => by
        have : W.co m = (Cl.zero hp : Cl p (zs sq.length)).co m := by unfold Cl.co; rw [hW, e]
        rw [this, Cl.zero_co hp hm, Cl.zero_co hp (by rw [zs_len]; exact hm)]
      rw [e1, Cl.sm_zero]
    · have e1 : W = Cl.zero hp := Cl.half hP (by rw [e, Cl.sm_zero])
      refine Cl.same fun m hm => ?_
      have hm' : m < pw sq.length := by rw [zs_len] at hm; exact hm
      have : (Cl.vec hp v * X' : Cl p (zs sq.length)).co m = W.co m := by unfold Cl.co; rw [hW]
      rw [this, e1, Cl.zero_co hp hm, Cl.zero_co hp hm']
  have hone : ∀ u, B = [u] → ∃ c : Int, X = c * Cl.vec hp u := fun u hu => by
    rw [← hB, hu] at hown
    refine ⟨_, Cl.ext (?_ : X.l = (X'.co (maskTo [u] [u].length) * Cl.vec hp u : Cl p sq).l)⟩
    rw [← hX', Cl.sm_l]
    have e1 : (Cl.vec hp u : Cl p sq).l = (Cl.prod hp [u] : Cl p (zs sq.length)).l := by
      rw [Cl.prod_cons, show (Cl.prod hp [] : Cl p (zs sq.length)) = Cl.one hp from rfl, Cl.mul_one, Cl.vec_l hp (hT u (by rw [← hB, hu]; simp)).2, Cl.vec_l hp (hT u (by rw [← hB, hu]; simp)).2, zs_len]
    rw [e1, ← Cl.sm_l]
    exact congrArg Cl.l hown
  obtain ⟨U, u1, _, ⟨c, hc, u3⟩, u4, _⟩ := orth_basis hp hP sq rfl B.length B rfl (hB ▸ hT)
  obtain ⟨o1, ⟨g, o2⟩, o3⟩ := orth_prod hp hP h6 U u4
  have hXU : ∃ a : Int, X = a * Cl.prod hp U := by
    rw [← hB] at hown
    have e2 := Cl.sm_inv hP hc u3
    refine ⟨X'.co (maskTo B B.length) * invF p (c % p), Cl.ext ?_⟩
    rw [← hX', Cl.sm_l, o1, ← Cl.sm_l, ← Cl.sm_sm, ← e2]
    exact congrArg Cl.l hown
  obtain ⟨a, hXa⟩ := hXU
  rw [← hB]
  refine ⟨?_, ⟨a * (a * g), ?_⟩, fun v => ?_, hsp, hone⟩
  · rw [hXa, Cl.invo_sm, Cl.prod_invo, u1, Cl.sm_sm, Cl.sm_sm, Int.mul_comm]
  · rw [hXa, Cl.sm_mul, Cl.mul_sm, o2, Cl.sm_sm, Cl.sm_sm, Int.mul_assoc]
  · obtain ⟨r, hr⟩ := o3 v
    refine ⟨scaleL p (tab sq.length fun i => r.getD i 0) (a * a), ?_⟩
    rw [Cl.vec_scale hp (tab_len _ _), hXa, Cl.sm_mul, Cl.mul_sm, Cl.sm_mul, hr, Cl.sm_sm]
    congr 1
    exact Cl.vec_cg hp fun q hq => by rw [tab_getD hq]
/-- What a blade does to vectors, with its number. -/
structure Mirror (hp : 0 < p) (X : Cl p sq) (R : List Int → List Int) (e s g : Int) : Prop where
  sign : X.invo = e * X
  sign2 : e * e = 1
  square : X * X = g * Cl.one hp
  unit : s * g % p = e % p
  vec : ∀ v, (R v).length = sq.length ∧ NumsL p (R v) ∧ (Cl.vec hp (R v) : Cl p sq) = s * (X * Cl.vec hp v * X)
theorem one_inj (hp : 0 < p) {a b : Int} (h : (a * Cl.one hp : Cl p sq) = b * Cl.one hp) : a % p = b % p := by
  have h1 : (a * Cl.one hp : Cl p sq).co 0 % p = (b * Cl.one hp : Cl p sq).co 0 % p := by rw [h]
  rw [Cl.sm_co _ _ (pw_pos _), Cl.sm_co _ _ (pw_pos _), Int.mul_emod, Cl.one_co hp (pw_pos _), ← Int.mul_emod, Int.mul_emod b, Cl.one_co hp (pw_pos _), ← Int.mul_emod, if_pos rfl, Int.mul_one, Int.mul_one] at h1
  exact h1
section
variable {hp : 0 < p} {X : Cl p sq} {R : List Int → List Int} {e s g : Int}
/-- Twice. -/
theorem Mirror.twice (M : Mirror hp X R e s g) {v : List Int} (hl : v.length = sq.length) (hv : NumsL p v) : R (R v) = v := by
  obtain ⟨a1, a2, a3⟩ := M.vec (R v)
  refine vec_inj hp a2 a1 hv hl ?_
  have e1 : X * (X * Cl.vec hp v * X) * X = (g * g) * Cl.vec hp v := by
    have : X * (X * Cl.vec hp v * X) * X = (X * X) * Cl.vec hp v * (X * X) := by simp only [Cl.mul_assoc]
    rw [this, M.square, Cl.sm_mul, Cl.one_mul, Cl.sm_mul, Cl.mul_sm, Cl.mul_one, Cl.sm_sm]
  rw [a3, (M.vec v).2.2, Cl.mul_sm, Cl.sm_mul, e1, Cl.sm_sm, Cl.sm_sm, Cl.sm_cg (j := 1) (by
    have := cg_mul M.unit M.unit
    rw [M.sign2] at this
    rw [show s * s * (g * g) = s * g * (s * g) by grind]
    exact this), Cl.one_sm]
/-- Norms. -/
theorem Mirror.norm (M : Mirror hp X R e s g) (hP : isP p = true) (v : List Int) : bil sq (R v) (R v) % p = bil sq v v % p := by
  refine one_inj (sq := sq) hp ?_
  have e1 : X * Cl.vec hp v * X * (X * Cl.vec hp v * X) = (g * (bil sq v v * g)) * Cl.one hp := by
    have : X * Cl.vec hp v * X * (X * Cl.vec hp v * X) = X * Cl.vec hp v * (X * X) * Cl.vec hp v * X := by simp only [Cl.mul_assoc]
    rw [this, M.square, Cl.mul_sm, Cl.mul_one, Cl.sm_mul, Cl.sm_mul, Cl.mul_assoc X, Cl.vec_sq hp hP, Cl.mul_sm, Cl.mul_one, Cl.sm_mul, M.square, Cl.sm_sm, Cl.sm_sm, Int.mul_assoc]
  rw [← Cl.vec_sq hp hP, (M.vec v).2.2, Cl.sm_mul, Cl.mul_sm, e1, Cl.sm_sm, Cl.sm_sm]
  refine Cl.sm_cg ?_ _
  have := cg_mul (cg_mul M.unit M.unit) (rfl : bil sq v v % p = bil sq v v % p)
  rw [M.sign2, Int.one_mul] at this
  rw [show s * s * (g * (bil sq v v * g)) = s * g * (s * g) * bil sq v v by grind]
  exact this
/-- Scaled. -/
theorem Mirror.scale (M : Mirror hp X R e s g) {v : List Int} (hl : v.length = sq.length) (k : Int) : R (scaleL p v k) = scaleL p (R v) k := by
  obtain ⟨a1, a2, a3⟩ := M.vec (scaleL p v k)
  obtain ⟨b1, b2, b3⟩ := M.vec v
  refine vec_inj hp a2 a1 (scaleL_nums hp _ _) (by rw [scaleL_len, b1]) ?_
  rw [a3, Cl.vec_scale hp hl, Cl.vec_scale hp b1, b3, Cl.mul_sm, Cl.sm_mul, Cl.sm_sm, Cl.sm_sm, Int.mul_comm]
/-- Ahead and behind. -/
theorem Mirror.ahead (M : Mirror hp X R e s g) (v : List Int) : Cl.vec hp (R v) * X = e * (X * Cl.vec hp v) := by
  rw [(M.vec v).2.2, Cl.sm_mul, Cl.mul_assoc, M.square, Cl.mul_sm, Cl.mul_one, Cl.sm_sm]
  exact Cl.sm_cg M.unit _
theorem Mirror.behind (M : Mirror hp X R e s g) (v : List Int) : X * Cl.vec hp (R v) = e * (Cl.vec hp v * X) := by
  have e1 : X * (X * Cl.vec hp v * X) = X * X * (Cl.vec hp v * X) := by simp only [Cl.mul_assoc]
  rw [(M.vec v).2.2, Cl.mul_sm, e1, M.square, Cl.sm_mul, Cl.one_mul, Cl.sm_sm]
  exact Cl.sm_cg M.unit _
/-- A vector less its image is in the subspace. -/
theorem Mirror.inside (M : Mirror hp X R e s g) {v : List Int} (hl : v.length = sq.length) : Cl.vec hp (plusL p v (R v) (-1)) * X + X.invo * Cl.vec hp (plusL p v (R v) (-1)) = Cl.zero hp := by
  rw [M.sign, Cl.sm_mul, Cl.vec_plus hp hl, Cl.add_mul, Cl.mul_add, Cl.sm_mul, Cl.mul_sm, M.ahead, M.behind]
  obtain ⟨a, ha⟩ : ∃ a : Cl p sq, a = Cl.vec hp v * X := ⟨_, rfl⟩
  obtain ⟨b, hb⟩ : ∃ b : Cl p sq, b = X * Cl.vec hp v := ⟨_, rfl⟩
  rw [← ha, ← hb]
  refine Cl.same fun m hm => ?_
  rw [Cl.zero_co hp hm, Cl.add_co _ _ hm, cg_add ((Cl.add_co _ _ hm).trans (cg_add rfl ((Cl.sm_co _ _ hm).trans (cg_mul rfl (Cl.sm_co _ _ hm))))) ((Cl.sm_co _ _ hm).trans (cg_mul rfl ((Cl.add_co _ _ hm).trans (cg_add rfl ((Cl.sm_co _ _ hm).trans (cg_mul rfl (Cl.sm_co _ _ hm)))))))]
  have h2 := M.sign2
  have : a.co m + -1 * (e * b.co m) + e * (b.co m + -1 * (e * a.co m)) = (1 - e * e) * a.co m := by grind
  rw [this, h2]; simp
/-- A vector of the subspace and an image. -/
theorem Mirror.flip (M : Mirror hp X R e s g) (hP : isP p = true) {u v : List Int} (hu : Cl.vec hp u * X + X.invo * Cl.vec hp u = Cl.zero hp) : bil sq u (R v) % p = (-(bil sq u v)) % p := by
  have h3 := isP_ge hP
  rw [M.sign, Cl.sm_mul] at hu
  have hu1 : Cl.vec hp u * X = (-e) * (X * Cl.vec hp u) := by rw [Cl.move hu, Cl.add_comm, Cl.add_zero]
  have hu2 : X * Cl.vec hp u = (-e) * (Cl.vec hp u * X) := by rw [hu1, Cl.sm_sm, show -e * -e = e * e by grind, M.sign2, Cl.one_sm]
  have h1 : (Cl.vec hp u : Cl p sq) * Cl.vec hp (R v) + Cl.vec hp (R v) * Cl.vec hp u = (s * (-e) * (2 * bil sq u v * g)) * Cl.one hp := by
    have e1 : Cl.vec hp u * (X * Cl.vec hp v * X) = (-e) * (X * (Cl.vec hp u * Cl.vec hp v) * X) := by
      have : Cl.vec hp u * (X * Cl.vec hp v * X) = Cl.vec hp u * X * (Cl.vec hp v * X) := by simp only [Cl.mul_assoc]
      rw [this, hu1, Cl.sm_mul]; simp only [Cl.mul_assoc]
    have e2 : X * Cl.vec hp v * X * Cl.vec hp u = (-e) * (X * (Cl.vec hp v * Cl.vec hp u) * X) := by
      rw [Cl.mul_assoc, hu2, Cl.mul_sm]; simp only [Cl.mul_assoc]
    rw [(M.vec v).2.2, Cl.mul_sm, Cl.sm_mul, e1, e2, ← Cl.sm_add, ← Cl.sm_add, ← Cl.add_mul, ← Cl.mul_add, Cl.vec_anti, Cl.mul_sm, Cl.mul_one, Cl.sm_mul, M.square, Cl.sm_sm, Cl.sm_sm, Cl.sm_sm]
    congr 1
    grind
  rw [Cl.vec_anti] at h1
  have h2 := one_inj hp h1
  have h4 : s * -e * (2 * bil sq u v * g) % p = (2 * -(bil sq u v)) % p := by
    have := cg_mul M.unit (rfl : (-e * (2 * bil sq u v)) % p = (-e * (2 * bil sq u v)) % p)
    rw [show s * -e * (2 * bil sq u v * g) = s * g * (-e * (2 * bil sq u v)) by grind, this, show e * (-e * (2 * bil sq u v)) = e * e * (2 * -(bil sq u v)) by grind, M.sign2, Int.one_mul]
  rw [h4] at h2
  have hi := half_two hP
  have h5 := cg_mul (rfl : invF p 2 % p = invF p 2 % p) h2
  have k1 : ∀ a : Int, invF p 2 * (2 * a) % p = a % p := fun a => by
    rw [← Int.mul_assoc, Int.mul_comm (invF p 2) 2]
    refine (cg_mul hi (rfl : a % p = a % p)).trans ?_
    rw [Int.one_mul]
  rw [k1, k1] at h5
  exact h5
end
/-- There is one for each blade whose square is not 0; its projections are known by it. -/
theorem mirror_of (hp : 0 < p) (hP : isP p = true) (h0 : 0 < sq.length) (h6 : sq.length ≤ 6) (X : Cl p sq) (hb : isBl p sq sq.length X.l = true) (hs : ¬ sqL p sq X.l = 0) :
    ∃ (R : List Int → List Int) (s g : Int), Mirror hp X R (sg (subL p sq sq.length X.l).length) s g ∧
      (∀ v : List Int, v.length = sq.length → NumsL p v → projL p sq sq.length X.l v = scaleL p (plusL p v (R v) (-1)) (invF p 2)) ∧
      (∀ u, subL p sq sq.length X.l = [u] → bil sq u u % p ≠ 0 ∧ ∀ v : List Int, v.length = sq.length → R v = reflF p sq u v) := by
  have h3 := isP_ge hP
  obtain ⟨f1, ⟨g, f2⟩, f3, f4, f5⟩ := blade_facts hp hP h0 h6 X hb
  have hsq : sqL p sq X.l = g % p := by
    unfold sqL
    rw [← Cl.mul_l]
    show (X * X).co 0 = _
    rw [← Cl.co_mod, f2, Cl.sm_co _ _ (pw_pos _), Int.mul_emod, Cl.one_co hp (pw_pos _), ← Int.mul_emod, if_pos rfl, Int.mul_one]
  have hg : g % p ≠ 0 := by rw [← hsq]; exact hs
  have hinv := inv_mod hP hg
  obtain ⟨i, hi⟩ : ∃ i, i = invF p (g % p) := ⟨_, rfl⟩
  have hig : i * g % p = 1 % p := by rw [hi, Int.mul_comm, hinv, Int.emod_eq_of_lt (by omega) (by omega)]
  obtain ⟨e, he⟩ : ∃ e, e = sg (subL p sq sq.length X.l).length := ⟨_, rfl⟩
  have he2 : e * e = 1 := by rw [he]; exact sg_two _
  rw [← he] at f1
  have hv : ∀ v : List Int, ∃ r : List Int, r.length = sq.length ∧ NumsL p r ∧ (Cl.vec hp r : Cl p sq) = (i * e) * (X * Cl.vec hp v * X) := fun v => by
    obtain ⟨r, hr⟩ := f3 v
    refine ⟨scaleL p (tab sq.length fun q => r.getD q 0) (i * e), by rw [scaleL_len, tab_len], scaleL_nums hp _ _, ?_⟩
    rw [Cl.vec_scale hp (tab_len _ _), hr]
    congr 1
    exact Cl.vec_cg hp fun q hq => by rw [tab_getD hq]
  obtain ⟨R, hR⟩ := Classical.axiomOfChoice hv
  have hunit : i * e * g % p = e % p := by
    rw [show i * e * g = i * g * e by grind]
    refine (cg_mul hig (rfl : e % p = e % p)).trans ?_
    rw [Int.one_mul]
  have M : Mirror hp X R e (i * e) g := ⟨f1, he2, f2, hunit, hR⟩
  rw [← he]
  refine ⟨R, i * e, g, M, fun v hl hv => ?_, fun u hu => ?_⟩
  · obtain ⟨C, hC⟩ : ∃ C : Cl p sq, C.l = contrL p sq (Cl.vec hp v : Cl p sq).l X.l := ⟨⟨contrL p sq (Cl.vec hp v : Cl p sq).l X.l, by unfold contrL; rw [prodL_len, Cl.len], by unfold contrL; exact prodL_nums _ _ _ _ hp, hp⟩, rfl⟩
    have h2C := Cl.contr_half hp h6 v X C hC
    have hQ : C * (i * X) = Cl.vec hp (scaleL p (plusL p v (R v) (-1)) (invF p 2)) := Cl.half hP (by
      rw [← Cl.sm_mul, ← h2C, Cl.vec_scale hp (by rw [plusL_len, hl]), Cl.sm_sm, Cl.sm_cg (half_two hP), Cl.one_sm, Cl.vec_plus hp hl, (M.vec v).2.2, f1, Cl.add_mul, Cl.mul_sm, Cl.mul_assoc (Cl.vec hp v), f2, Cl.mul_sm, Cl.mul_one, Cl.sm_sm, Cl.sm_cg hig, Cl.one_sm]
      congr 1
      rw [Cl.sm_mul, Cl.sm_mul, Cl.sm_mul, Cl.mul_sm, Cl.sm_sm, Cl.sm_sm, Cl.sm_sm]
      congr 1
      grind)
    have e1 : projL p sq sq.length X.l v = partL sq.length (C * (i * X)).l := by
      unfold projL
      rw [Cl.mul_l, Cl.sm_l, hC, Cl.vec_l hp hv, hsq, hi]
    rw [e1, hQ, Cl.vec_at hp (scaleL_nums hp _ _) (by rw [scaleL_len, plusL_len, hl])]
  · obtain ⟨c, hc⟩ := f5 u hu
    have e1 : (g * Cl.one hp : Cl p sq) = (c * (c * bil sq u u)) * Cl.one hp := by
      rw [← f2, hc, Cl.sm_mul, Cl.mul_sm, Cl.vec_sq hp hP, Cl.sm_sm, Cl.sm_sm, Int.mul_assoc]
    have hgc := one_inj hp e1
    have hN : bil sq u u % p ≠ 0 := fun h => hg (by
      rw [hgc]
      obtain ⟨t, ht⟩ := cg_wit.1 (h.trans (Int.zero_emod p).symm)
      rw [ht]
      exact (cg_wit.2 ⟨c * (c * t), by grind⟩).trans (Int.zero_emod p))
    refine ⟨hN, fun v hl => ?_⟩
    obtain ⟨r1, r2, r3⟩ := hR v
    refine vec_inj hp r2 r1 (reflF_nums hp _ _) (by rw [reflF_len, hl]) ?_
    have he1 : e = -1 := by rw [he, hu]; rfl
    rw [r3, hc, Cl.sm_mul, Cl.mul_sm, Cl.sm_mul, Cl.one_refl hp hP hl hN, Cl.sm_sm, Cl.sm_sm, Cl.sm_sm, he1]
    refine (Cl.sm_cg (j := 1) ?_ _).trans (Cl.one_sm _)
    have := cg_mul (rfl : i % p = i % p) hgc.symm
    exact (congrArg (· % p) (show _ = i * (c * (c * bil sq u u)) by grind)).trans (this.trans hig)
end
end Go.Proofs.YtggigolkncckoaaGreat
namespace Go.Proofs.YtggigolkncckoaaGreat
open Go.RowKit
/-- A block of matrices. -/
def RdM (w : World) (g n : Nat) (p : Int) : Prop := ∀ k, k < n → ∃ (A : Option Addr) (r c m : Nat) (M : List (List Int)), w.cell? ⟨g, k, none⟩ = some (.slice A r c) ∧ RdII w A r M ∧ Tab p m M ∧ 0 < r ∧ r ≤ 16 ∧ 1 ≤ m ∧ m ≤ 16
theorem RdM.below {w w' : World} {g n : Nat} {p : Int} (h : RdM w g n p) (hb : Below w.heap.size w w') : RdM w' g n p := fun k hk => by
  obtain ⟨A, r, c, m, M, h1, h2, h3⟩ := h k hk
  exact ⟨A, r, c, m, M, (hb.cell (World.block_lt_of_cell? _ _ h1)).trans h1, h2.below hb, h3⟩
end Go.Proofs.YtggigolkncckoaaGreat
namespace Go.Proofs.YtggigolkncckoaaGreat
open Go.RowKit
def MkO (w0 w : World) (A : Option Addr) (n c : Nat) (xss : List (List Int)) : Prop := ∃ rows, Mk w0 w 24 A n c rows ∧ rows.length = xss.length ∧
  ∀ (k : Nat) (h : k < xss.length), ∃ A' c', rows[k]? = some (.slice A' xss[k].length c') ∧ Own w 0 2 A' xss[k].length c' (ints xss[k])
theorem MkII.o {w0 w : World} {A : Option Addr} {n c : Nat} {xss : List (List Int)} (h : MkII w0 w A n c xss) : MkO w0 w A n c xss := by
  obtain ⟨rows, hm, hn⟩ := h
  exact ⟨rows, hm, hn.len, fun k hk => by obtain ⟨A', c', e, ho⟩ := hn.row k hk; exact ⟨A', c', e, ho.base (Nat.zero_le _)⟩⟩
theorem MkO.rd {w0 w : World} {A : Option Addr} {n c : Nat} {xss : List (List Int)} (h : MkO w0 w A n c xss) : RdII w A n xss := by
  obtain ⟨rows, hm, hl, hk⟩ := h
  exact ⟨rows, hm.rd, hl, fun k hlt => by obtain ⟨A', c', e, ho⟩ := hk k hlt; exact ⟨A', c', e, ho.rd, ho.cap⟩⟩
theorem MkO.b {w0 w : World} {A : Option Addr} {n c : Nat} {xss : List (List Int)} (h : MkO w0 w A n c xss) : Below w0.heap.size w0 w := by
  obtain ⟨_, hm, _⟩ := h; exact hm.1
theorem MkO.below {w0 w w' : World} {A : Option Addr} {n c : Nat} {xss : List (List Int)} (h : MkO w0 w A n c xss) (hb : Below w.heap.size w w') : MkO w0 w' A n c xss := by
  obtain ⟨rows, hm, hl, hk⟩ := h
  exact ⟨rows, hm.below hb, hl, fun k hlt => by obtain ⟨A', c', e, ho⟩ := hk k hlt; exact ⟨A', c', e, ho.below hb⟩⟩
theorem MkO.after {w0 w1 w : World} {A : Option Addr} {n c : Nat} {xss : List (List Int)} (h : MkO w1 w A n c xss) (hb : Below w0.heap.size w0 w1) : MkO w0 w A n c xss := by
  obtain ⟨rows, hm, hl, hk⟩ := h
  exact ⟨rows, hm.after hb, hl, hk⟩
theorem MkO.ne_blk {w0 w : World} {A : Option Addr} {n c g : Nat} {xss : List (List Int)} {t : TypeId} {cs : Array Value} (h : MkO w0 w A n c xss) (hb : Blk w g t cs) (hE : 24 ≠ t) : some g ≠ (Value.slice A n c).ownBlock := by
  obtain ⟨rows, hm, _⟩ := h
  exact hm.2.ne_blk hb hE
end Go.Proofs.YtggigolkncckoaaGreat
namespace Go.Proofs.YtggigolkncckoaaGreat
/-- Rows none of which is a sum of multiples of others. -/
def Ind (p : Int) (n : Nat) (L : List (List Int)) : Prop := ∀ c : Nat → Int, (∀ q, q < n → (sumTo L.length fun i => c i * ent L i q) % p = 0) → ∀ i, i < L.length → c i % p = 0
section
variable {p : Int} {n : Nat}
theorem Red.ind {B : List (List Int)} (hR : Red n B) : Ind p n B := fun c hc i hi => by
  have h := hc _ (hR.lt i hi)
  rwa [sumTo_one (f := fun j => c j * ent B j (ld B i)) i hi (fun j hj hne => by rw [hR.zero i j hi hj hne, Int.mul_zero]), hR.one i hi, Int.mul_one] at h
/-- Leads that fill the first places. -/
theorem Red.fills {B : List (List Int)} (hR : Red n B) {N : Nat} (h : ∀ f, f < N → isLd B f = true) : N ≤ B.length := by
  have key : ∀ f, f < N → ∃ i, i < B.length ∧ ld B i = f ∧ f ≤ i := by
    intro f
    induction f with
    | zero => intro h0; obtain ⟨i, hi, e⟩ := isLd_iff.1 (h 0 h0); exact ⟨i, hi, e, Nat.zero_le _⟩
    | succ f ih =>
      intro hf
      obtain ⟨i, hi, e, hle⟩ := ih (by omega)
      obtain ⟨j, hj, e2⟩ := isLd_iff.1 (h (f + 1) hf)
      refine ⟨j, hj, e2, ?_⟩
      rcases Nat.lt_trichotomy i j with hl | hl | hl
      · omega
      · subst hl; omega
      · have := hR.mono j i hl hi; omega
  rcases Nat.eq_zero_or_pos N with rfl | hN
  · exact Nat.zero_le _
  · obtain ⟨i, hi, -, hle⟩ := key (N - 1) (by omega)
    omega
/-- Independent vectors that others make are no more than these. -/
theorem Ind.le (hP : isP p = true) {L M : List (List Int)} (hI : Ind p n L) (hS : InSp p n L M) : L.length ≤ M.length := by
  have hp : 2 ≤ p := by have := isP_ge hP; omega
  refine Classical.byContradiction fun hlt => ?_
  have hch : ∀ i, ∃ a : Nat → Int, i < L.length → ∀ q, q < n → ent L i q % p = (sumTo M.length fun j => a j * ent M j q) % p := fun i => by
    by_cases hi : i < L.length
    · obtain ⟨a, ha⟩ := hS i hi; exact ⟨a, fun _ => ha⟩
    · exact ⟨fun _ => 0, fun h => absurd h hi⟩
  obtain ⟨a, ha⟩ := Classical.axiomOfChoice hch
  obtain ⟨A, hA⟩ : ∃ A : List (List Int), A = tab M.length fun j => tab L.length fun i => a i j % p := ⟨_, rfl⟩
  have hAl : A.length = M.length := by rw [hA, tab_len]
  have hAT : Tab p L.length A := by
    rw [hA]
    exact Tab.tab fun j _ => ⟨tab_len _ _, NumsL.tab fun i _ => ⟨Int.emod_nonneg _ (by omega), Int.emod_lt_of_pos _ (by omega)⟩⟩
  have hAe : ∀ j i, j < M.length → i < L.length → ent A j i = a i j % p := fun j i hj hi => by
    unfold ent; rw [hA, tab_getD hj, tab_getD hi]
  have hR := basisL_red hP A hAT
  have hRl := (basisL_len (p := p) (by omega) A hAT).2
  have hf : ∃ f, f < L.length ∧ isLd (basisL p A) f = false := Classical.byContradiction fun hno => by
    have := hR.fills (N := L.length) fun f hf => by
      cases e : isLd (basisL p A) f
      · exact absurd ⟨f, hf, e⟩ hno
      · rfl
    omega
  obtain ⟨f, hf, hfl⟩ := hf
  have ho := (freeRow_orth (p := p) hR hf hfl).of_in (basisL_in hP A hAT).2
  obtain ⟨c, hc⟩ : ∃ c : Nat → Int, c = fun q => (freeRow p (basisL p A) L.length f).getD q 0 := ⟨_, rfl⟩
  have h0 := hI c (fun q hq => by
    have e1 : (sumTo L.length fun i => c i * ent L i q) % p = (sumTo L.length fun i => c i * sumTo M.length fun j => a i j * ent M j q) % p := sumTo_mod p fun i hi => cg_mul rfl (ha i hi q hq)
    rw [e1, sumTo_congr (g := fun i => sumTo M.length fun j => c i * (a i j * ent M j q)) fun i _ => (sumTo_mul _ _ _).symm, sumTo_comm]
    refine (sumTo_mod p (g := fun _ => 0) fun j hj => ?_).trans (by rw [sumTo_zero fun _ _ => rfl]; rfl)
    have h1 := ho j (by omega)
    have e2 : (sumTo L.length fun i => c i * (a i j * ent M j q)) = ent M j q * sumTo L.length fun i => a i j * c i := by
      rw [← sumTo_mul]; exact sumTo_congr fun i _ => by rw [← Int.mul_assoc, Int.mul_comm (ent M j q), Int.mul_comm (c i)]
    rw [e2]
    have e3 : (sumTo L.length fun i => a i j * c i) % p = (sumTo L.length fun q => ent A j q * (freeRow p (basisL p A) L.length f).getD q 0) % p := sumTo_mod p fun i hi => by
      rw [hAe j i hj hi, hc]; exact cg_mul (cg_self _ _).symm rfl
    exact (cg_mul rfl (e3.trans h1)).trans (by rw [Int.mul_zero])) f hf
  rw [hc] at h0
  simp only [freeRow_own (p := p) (B := basisL p A) hf] at h0
  rw [Int.emod_eq_of_lt (by omega) (by omega)] at h0
  exact absurd h0 (by decide)
theorem Ind.same (hP : isP p = true) {L M : List (List Int)} (hL : Ind p n L) (hM : Ind p n M) (h1 : InSp p n L M) (h2 : InSp p n M L) : L.length = M.length :=
  Nat.le_antisymm (hL.le hP h1) (hM.le hP h2)
/-- The reduced basis of independent vectors has as many. -/
theorem Ind.basis (hP : isP p = true) {L : List (List Int)} (hT : Tab p n L) (hL : Ind p n L) : (basisL p L).length = L.length :=
  (basisL_red hP L hT).ind.same hP hL (basisL_in hP L hT).1 (basisL_in hP L hT).2
end
end Go.Proofs.YtggigolkncckoaaGreat
namespace Go.Proofs.YtggigolkncckoaaGreat
open Go.RowKit
theorem Ind.snoc {p : Int} {n : Nat} (hP : isP p = true) {B : List (List Int)} {v : List Int} (hI : Ind p n B) (h : ¬ Sp p n B (fun q => v.getD q 0)) : Ind p n (B ++ [v]) := fun c hc => by
  have hsum : ∀ q, q < n → (sumTo B.length (fun i => c i * ent B i q) + c B.length * v.getD q 0) % p = 0 := fun q hq => by
    have h1 := hc q hq
    rw [List.length_append, List.length_singleton, sumTo_succ] at h1
    refine Eq.trans ?_ h1
    congr 1
    congr 1
    · refine sumTo_congr fun i hi => ?_
      unfold ent; rw [getD_app_left [] _ hi]
    · unfold ent
      have e9 : (B ++ [v]).getD B.length [] = v := by
        rw [List.getD_eq_getElem?_getD, List.getElem?_append_right (Nat.le_refl _)]
        simp
      rw [e9]
  have h0 : c B.length % p = 0 := Classical.byContradiction fun hne => h (by
    refine ⟨fun i => -(invF p (c B.length % p)) * c i, fun q hq => ?_⟩
    have hi := inv_mod hP hne
    obtain ⟨t, ht⟩ := cg_wit.1 ((hsum q hq).trans (Int.zero_emod p).symm)
    have h3 := isP_ge hP
    obtain ⟨s, hs⟩ := cg_wit.1 (hi.trans (Int.emod_eq_of_lt (a := 1) (by omega) (by omega)).symm)
    have e1 : (sumTo B.length fun i => -(invF p (c B.length % p)) * c i * ent B i q) = -(invF p (c B.length % p)) * sumTo B.length (fun i => c i * ent B i q) := by
      rw [← sumTo_mul]
      exact sumTo_congr fun i _ => Int.mul_assoc _ _ _
    rw [e1]
    obtain ⟨S, hS⟩ : ∃ S, S = sumTo B.length (fun i => c i * ent B i q) := ⟨_, rfl⟩
    obtain ⟨I, hI⟩ : ∃ I, I = invF p (c B.length % p) := ⟨_, rfl⟩
    obtain ⟨C, hC⟩ : ∃ C, C = c B.length := ⟨_, rfl⟩
    obtain ⟨V, hV⟩ : ∃ V, V = v.getD q 0 := ⟨_, rfl⟩
    rw [← hI, ← hC] at hs
    rw [← hS, ← hC, ← hV] at ht
    show v.getD q 0 % p = _
    rw [← hV, ← hI, ← hS]
    refine cg_wit.2 ⟨I * t - s * V, ?_⟩
    have e2 : S = p * t - C * V := by omega
    rw [e2]
    clear e1 e2 ht hi hsum hc
    grind)
  have h1 : ∀ i, i < B.length → c i % p = 0 := hI c fun q hq => by
    have h2 := hsum q hq
    obtain ⟨t, ht⟩ := cg_wit.1 (h0.trans (Int.zero_emod p).symm)
    rw [ht] at h2
    obtain ⟨S, hS⟩ : ∃ S, S = sumTo B.length (fun i => c i * ent B i q) := ⟨_, rfl⟩
    rw [← hS] at h2 ⊢
    obtain ⟨s, hs⟩ := cg_wit.1 (h2.trans (Int.zero_emod p).symm)
    exact (cg_wit.2 ⟨s - t * v.getD q 0, by grind⟩).trans (Int.zero_emod p)
  intro i hi
  rw [List.length_append, List.length_singleton] at hi
  rcases Nat.lt_or_ge i B.length with h2 | h2
  · exact h1 i h2
  · obtain rfl : i = B.length := by omega
    exact h0
end Go.Proofs.YtggigolkncckoaaGreat
namespace Go.Proofs.YtggigolkncckoaaGreat
theorem zeroL_iff (xs : List Int) : zeroL xs = true ↔ ∀ y ∈ xs, y = 0 := by
  unfold zeroL
  rw [beq_iff_eq]
  constructor
  · intro h y hy
    obtain ⟨i, hi, rfl⟩ := List.getElem_of_mem hy
    have := leadL_before xs i (by omega)
    rwa [getD_of_lt 0 hi] at this
  · intro h
    refine Classical.byContradiction fun hne => ?_
    have hlt : leadL xs < xs.length := by have := leadL_le xs; omega
    exact leadL_at xs hlt (h _ (getD_mem 0 hlt))
section
variable {p : Int} {n : Nat}
/-- A vector lies in the subspace of a multivector when their outer product is 0. -/
theorem contains_iff {sq : List Int} (hn : sq.length = n) (h0 : 0 < n) (hP : isP p = true) {xs v : List Int} (hl : xs.length = pw n) (hx : NumsL p xs) (hv : NumsL p v) : zeroL (wedgeL p sq (vecTo n v n) xs) = true ↔ Sp p n (subL p sq n xs) fun q => v.getD q 0 := by
  have h3 := isP_ge hP
  have hp : 0 < p := by omega
  obtain ⟨x, rfl⟩ : ∃ x : Cl p (zs n), x.l = xs := ⟨⟨xs, hl.trans (by rw [zs_len]), hx, hp⟩, rfl⟩
  have e : vecTo n v n = (Cl.vec hp v : Cl p (zs n)).l := by rw [Cl.vec_l hp hv, zs_len]
  rw [sub_sp hn h0 hp hP x v, zeroL_iff, e, wedge_cl' hn]
  constructor
  · intro h
    refine Cl.same fun m hm => ?_
    rw [Cl.zero_co hp hm]
    have : (Cl.vec hp v * x : Cl p (zs n)).co m = 0 := h _ (getD_mem 0 (by rw [Cl.len]; exact hm))
    rw [this, Int.zero_emod]
  · intro h
    rw [h]; exact Cl.zero_all hp
end
section
variable {P : Int} {sq xs v : List Int}
end
end Go.Proofs.YtggigolkncckoaaGreat
