/-
  ProjectOnto, RejectFrom, ReflectInBlade: the program's functions and the reference's return the same.
-/
import Derived.Test.YtommppijnccomaaGreatBld
import Derived.Test.YtommppijnccomaaGreatPart
import Derived.Test.YtommppijnccomaaGreatPlus
namespace Go.Proofs.YtommppijnccomaaGreat
open Go.RowKit

/-- The square of a blade: the number of 1 of its product with itself. -/
def sqL (P : Int) (sq xs : List Int) : Int := (mulL P sq xs xs).getD 0 0
theorem sqL_small {P : Int} (hp : 2 ≤ P) (sq xs : List Int) : 0 ≤ sqL P sq xs ∧ sqL P sq xs < P := NumsL.getD (mulL_nums (by omega) sq xs xs) (by omega) 0
/-- The code of an invertible blade and a vector. -/
def codeLi (P : Int) (sq xs v : List Int) : Int := if codeLv P sq xs v = 0 then (if sqL P sq xs = 0 then 5 else 0) else codeLv P sq xs v
theorem codeLi_zero {P : Int} {sq xs v : List Int} (h : codeLi P sq xs v = 0) : codeLv P sq xs v = 0 ∧ ¬ sqL P sq xs = 0 := by
  unfold codeLi at h
  by_cases h1 : codeLv P sq xs v = 0
  · rw [if_pos h1] at h
    by_cases h2 : sqL P sq xs = 0
    · rw [if_pos h2] at h; omega
    · exact ⟨h1, h2⟩
  · rw [if_neg h1] at h; exact absurd h h1
theorem codeLi_eq {P : Int} {sq xs v : List Int} (h : codeLv P sq xs v = 0) : codeLi P sq xs v = if sqL P sq xs = 0 then 5 else 0 := by unfold codeLi; rw [if_pos h]
theorem codeLi_ne {P : Int} {sq xs v : List Int} (h : ¬ codeLv P sq xs v = 0) : codeLi P sq xs v = codeLv P sq xs v := by unfold codeLi; rw [if_neg h]
/-- The projection of a vector. -/
def projL (P : Int) (sq : List Int) (n : Nat) (xs v : List Int) : List Int := partL n (mulL P sq (contrL P sq (vecTo n v n) xs) (scaleL P xs (invF P (sqL P sq xs))))
theorem projL_len (P : Int) (sq : List Int) (n : Nat) (xs v : List Int) : (projL P sq n xs v).length = n := partL_len _ _
theorem projL_nums {P : Int} (hp : 2 ≤ P) (sq : List Int) (n : Nat) (xs v : List Int) : NumsL P (projL P sq n xs v) := partL_nums (by omega) n _ (mulL_nums (by omega) _ _ _)

/-- ProjectOnto. -/
def prR (P : Int) (sq : List Int) (xs : List Int) (v : List Int) : List Int × Int := if codeLi P sq xs v = 0 then (projL P sq sq.length xs v, 0) else ([], codeLi P sq xs v)
theorem prR_ok {P : Int} {sq xs v : List Int} (h : codeLi P sq xs v = 0) : prR P sq xs v = (projL P sq sq.length xs v, 0) := by unfold prR; rw [if_pos h]
theorem prR_bad {P : Int} {sq xs v : List Int} (h : ¬ codeLi P sq xs v = 0) : prR P sq xs v = ([], codeLi P sq xs v) := by unfold prR; rw [if_neg h]

set_option maxHeartbeats 6400000 in
set_option maxRecDepth 8000 in
theorem projection_any (P : Int) (A : Option Addr) (n c : Nat) (sq : List Int) (X : Option Addr) (m cx : Nat) (xs : List Int) (Y : Option Addr) (l cy : Nat) (ys : List Int) (w : World) (hn : n ≤ 1048576) (hm : m ≤ 1048576) (hl : l ≤ 1048576) (ha : Rd w A n (ints sq)) (hx : Rd w X m (ints xs)) (hcx : m ≤ cx) (hy : Rd w Y l (ints ys)) (_hcy : l ≤ cy) :
    Calls Tryz.prog 75 #[.agg #[.int .i64 P, .slice A n c], .slice X m cx, .slice Y l cy] w fun e w' => ∃ (A' : Option Addr) (k c' : Nat), e = .returned (.tuple #[.slice A' k c', .int .i64 (prR P sq xs ys).2]) ∧ MkI w w' A' k c' (prR P sq xs ys).1 := by
  have hB0 : Below w.heap.size w (w.alloc (.cells #[.int .i64 P, .slice A n c] 28)) := (Below.refl _ _).alloc (Nat.le_refl _) _
  have k0 : Blk (w.alloc (.cells #[.int .i64 P, .slice A n c] 28)) w.heap.size 28 #[.int .i64 P, .slice A n c] := Blk.new _ _ _
  have hB1 : Below w.heap.size w ((w.alloc (.cells #[.int .i64 P, .slice A n c] 28)).alloc (.cells #[.slice X m cx] 22)) := hB0.alloc (by simp) _
  have k1 : Blk ((w.alloc (.cells #[.int .i64 P, .slice A n c] 28)).alloc (.cells #[.slice X m cx] 22)) w.heap.size 28 #[.int .i64 P, .slice A n c] := k0.alloc _
  have hreg := checkMultis_any P A (some ⟨w.heap.size + 1, 0, none⟩) n c 1 1 sq [xs] ((w.alloc (.cells #[.int .i64 P, .slice A n c] 28)).alloc (.cells #[.slice X m cx] 22)) hn (by omega) (ha.below hB1) (rdII_one' (Blk.newAt3 (by simp)) (hx.below hB1) hcx) (all_one (by rw [hx.lenI]; exact hm))
  by_cases hcM : codeM P sq [xs] = 0
  · have HCV := Lib.hid (codeLv_eq (v := ys) hcM)
    rw [hcM] at hreg
    obtain ⟨HP, hp, hp2, hd1, hd2, hs0, hms⟩ := codeM_spec3 hcM
    have hsl := ha.lenI
    obtain ⟨hx1, hxs0⟩ := hms xs (by simp)
    have hmx : m = pw n := by rw [← hx.lenI, hx1, hsl]
    subst hmx
    have HSL := Lib.hid hsl
    have HS0 := Lib.hid hs0
    have HXS := Lib.hid hxs0
    have hn6 : n ≤ 6 := by omega
    have hn0 : 0 < n := by omega
    clear hms hx1 hs0 hxs0 hd1 hd2
    clear hcM
    have hvec := fun w' (hb : Below w.heap.size w w') => isVector_any P A Y n c l cy sq ys w' hn hsl hl (by omega) hp2 (hy.below hb)
    cases hve : isVe P sq ys
    · have HC5 : Hid (¬ codeLi P sq xs ys = 0 ∧ codeLi P sq xs ys = 2) := Lib.hid (by
        have h1 : codeLv P sq xs ys = 2 := by rw [HCV.out, hve]; simp
        rw [codeLi_ne (by rw [h1]; decide), h1]; decide)
      rw [hve] at hvec
      clear hve hsl
      go_enter Tryz.func75, Tryz.ntmps75
      go_wp2_with fail
      refine hreg.mono ?_
      rintro e w2 ⟨rfl, hb2⟩
      have hB2 := hB1.trans (hb2.mono hB1.size)
      have k2 := k1.below hb2 k1.lt
      obtain ⟨q0, q1⟩ := k2.two
      clear k0 hB0 k1 hB1 hb2
      go_wp2_with fail
      refine (hvec _ hB2).mono ?_
      rintro e w3 ⟨rfl, hb3⟩
      go_wp2
      go_ret2
      exact noRow3 (by rw [prR_bad HC5.out.1, HC5.out.2]) (hB2.trans (hb3.mono hB2.size))
    · obtain ⟨hly0, hys0⟩ := isVe_spec3 hve
      have hly : n = l := by rw [← hy.lenI, hly0, hsl]
      subst hly
      have HYS := Lib.hid hys0
      have hbl := fun w' (hb : Below w.heap.size w w') => isBlade_any P A n c sq X cx xs w' HP hn6 hn0 (ha.below hb) HS0.out (hx.below hb) HXS.out
      have HVE := Lib.hid hve
      rw [hve] at hvec
      clear hve hsl hly0 hys0
      cases hbb : isBl P sq n xs
      · have HC5 : Hid (¬ codeLi P sq xs ys = 0 ∧ codeLi P sq xs ys = 5) := Lib.hid (by
          have h1 : codeLv P sq xs ys = 5 := by rw [HCV.out, HVE.out, HSL.out, hbb]; simp
          rw [codeLi_ne (by rw [h1]; decide), h1]; decide)
        rw [hbb] at hbl
        clear hbb
        go_enter Tryz.func75, Tryz.ntmps75
        go_wp2_with fail
        refine hreg.mono ?_
        rintro e w2 ⟨rfl, hb2⟩
        have hB2 := hB1.trans (hb2.mono hB1.size)
        have k2 := k1.below hb2 k1.lt
        obtain ⟨q0, q1⟩ := k2.two
        clear k0 hB0 k1 hB1 hb2
        go_wp2_with fail
        refine (hvec _ hB2).mono ?_
        rintro e w3 ⟨rfl, hb3⟩
        have hB3 := hB2.trans (hb3.mono hB2.size)
        have k3 := k2.below hb3 k2.lt
        obtain ⟨q0, q1⟩ := k3.two
        clear k2 hB2 hb3 hvec
        go_wp2_with fail
        refine (hbl _ hB3).mono ?_
        rintro e w4 ⟨rfl, hb4⟩
        go_wp2
        go_ret2
        exact noRow3 (by rw [prR_bad HC5.out.1, HC5.out.2]) (hB3.trans (hb4.mono hB3.size))
      · have HR0 : Hid (codeLv P sq xs ys = 0) := Lib.hid (by rw [HCV.out, HVE.out, HSL.out, hbb]; simp)
        rw [hbb] at hbl
        clear hbb
        have hsqr := fun w' (h : Below w.heap.size w w') => bladeSquare_any P A n c sq X cx xs w' hp hp2 hn6 (ha.below h) HS0.out (hx.below h) HXS.out hcx
        obtain ⟨vq, hvq⟩ : ∃ v, v = sqL P sq xs := ⟨_, rfl⟩
        have HVQ := Lib.hid hvq
        have hvqd : vq = (mulL P sq xs xs).getD 0 0 := hvq
        rw [← hvqd] at hsqr
        obtain ⟨hv1, hv2⟩ := sqL_small hp sq xs
        rw [← hvq] at hv1 hv2
        clear hvq hvqd
        by_cases hv0 : vq = 0
        · have HC5 : Hid (¬ codeLi P sq xs ys = 0 ∧ codeLi P sq xs ys = 5) := Lib.hid (by rw [codeLi_eq HR0.out, if_pos (HVQ.out.symm.trans hv0)]; decide)
          subst hv0
          go_enter Tryz.func75, Tryz.ntmps75
          go_wp2_with fail
          refine hreg.mono ?_
          rintro e w2 ⟨rfl, hb2⟩
          have hB2 := hB1.trans (hb2.mono hB1.size)
          have k2 := k1.below hb2 k1.lt
          obtain ⟨q0, q1⟩ := k2.two
          clear k0 hB0 k1 hB1 hb2
          go_wp2_with fail
          refine (hvec _ hB2).mono ?_
          rintro e w3 ⟨rfl, hb3⟩
          have hB3 := hB2.trans (hb3.mono hB2.size)
          have k3 := k2.below hb3 k2.lt
          obtain ⟨q0, q1⟩ := k3.two
          clear k2 hB2 hb3 hvec
          go_wp2_with fail
          refine (hbl _ hB3).mono ?_
          rintro e w4 ⟨rfl, hb4⟩
          have hB4 := hB3.trans (hb4.mono hB3.size)
          have k4 := k3.below hb4 k3.lt
          obtain ⟨q0, q1⟩ := k4.two
          clear k3 hB3 hb4 hbl
          go_wp2_with fail
          refine (hsqr _ hB4).mono ?_
          rintro e w5 ⟨rfl, hb5⟩
          go_wp2
          go_ret2
          exact noRow3 (by rw [prR_bad HC5.out.1, HC5.out.2]) (hB4.trans (hb5.mono hB4.size))
        · have HCO : Hid (prR P sq xs ys = (projL P sq n xs ys, 0)) := Lib.hid (by rw [prR_ok (by rw [codeLi_eq HR0.out, if_neg (fun e => hv0 (HVQ.out.trans e))]), HSL.out])
          have hv0' : (vq == 0) = false := by simp; exact hv0
          have HSQR := Lib.hid hsqr
          have HXL := Lib.hid hx.lenI
          have HIV := Lib.hid (invF_small hp vq)
          have hpwl : pw n ≤ 64 := pw_le hn6
          clear hv0
          go_enter Tryz.func75, Tryz.ntmps75
          go_wp2_with fail
          refine hreg.mono ?_
          rintro e w2 ⟨rfl, hb2⟩
          have hB2 := hB1.trans (hb2.mono hB1.size)
          have k2 := k1.below hb2 k1.lt
          obtain ⟨q0, q1⟩ := k2.two
          clear k0 hB0 k1 hB1 hb2
          go_wp2_with fail
          refine (hvec _ hB2).mono ?_
          rintro e w3 ⟨rfl, hb3⟩
          have hB3 := hB2.trans (hb3.mono hB2.size)
          have k3 := k2.below hb3 k2.lt
          obtain ⟨q0, q1⟩ := k3.two
          clear k2 hB2 hb3 hvec
          go_wp2_with fail
          refine (hbl _ hB3).mono ?_
          rintro e w4 ⟨rfl, hb4⟩
          have hB4 := hB3.trans (hb4.mono hB3.size)
          have k4 := k3.below hb4 k3.lt
          obtain ⟨q0, q1⟩ := k4.two
          clear k3 hB3 hb4 hbl
          go_wp2_with fail
          refine (hsqr _ hB4).mono ?_
          rintro e w5 ⟨rfl, hb5⟩
          have hB5 := hB4.trans (hb5.mono hB4.size)
          have k5 := k4.below hb5 k4.lt
          obtain ⟨q0, q1⟩ := k5.two
          clear k4 hB4 hb5 hsqr
          have HSQ2 := Lib.hid fun (w' : World) (h : Below w5.heap.size w5 w') => HSQR.out w' (hB5.trans (h.mono hB5.size))
          have HPJ : Hid (projL P sq n xs ys = partL n (mulL P sq (contrL P sq (vecTo n ys n) xs) (scaleL P xs (invF P vq)))) := Lib.hid (by unfold projL; rw [← HVQ.out])
          have HSCA := Lib.hid fun (w' : World) (h : Below w5.heap.size w5 w') => scaled_any P X (pw n) cx (invF P vq) xs w' hp hp2 (by omega) ((hx.below hB5).below h) HXS.out (by have := HIV.out; omega) (by have := HIV.out; omega)
          have HVEC := Lib.hid fun (w' : World) (h : Below w5.heap.size w5 w') => vector_any P A n c Y cy ys w' (by omega) ((hy.below hB5).below h)
          have HCON := Lib.hid fun (w' : World) (B : Option Addr) (d : Nat) (h : Below w5.heap.size w5 w') (hb : Rd w' B (pw n) (ints (vecTo n ys n))) => contract_any P A n c sq B d (vecTo n ys n) X cx xs w' hp hp2 hn6 ((ha.below hB5).below h) HS0.out hb (vecTo_nums (by omega) n _ HYS.out n) ((hx.below hB5).below h) HXS.out
          have HTIM := Lib.hid fun (w' : World) (B : Option Addr) (d : Nat) (h : Below w5.heap.size w5 w') (hb : RdII w' B 2 [contrL P sq (vecTo n ys n) xs, scaleL P xs (invF P vq)]) => times_any P A n c sq B 2 d [contrL P sq (vecTo n ys n) xs, scaleL P xs (invF P vq)] w' hp hp2 hn6 (by omega) ((ha.below hB5).below h) HS0.out hb (all_two ⟨contrL_nums (by omega) _ _ _, by rw [contrL_len, vecTo_len]⟩ ⟨scaleL_nums (by omega) _ _, by rw [scaleL_len, HXL.out]⟩)
          have HTT := Lib.hid (timesL_two P sq n (contrL P sq (vecTo n ys n) xs) (scaleL P xs (invF P vq)) (by rw [contrL_len, vecTo_len]) (contrL_nums (by omega) _ _ _))
          rw [HTT.out] at HTIM
          have HPAR := Lib.hid fun (w' : World) (B : Option Addr) (d : Nat) (hb : Rd w' B (pw n) (ints (mulL P sq (contrL P sq (vecTo n ys n) xs) (scaleL P xs (invF P vq))))) => vectorPart_any P A n c B d (mulL P sq (contrL P sq (vecTo n ys n) xs) (scaleL P xs (invF P vq))) w' (by omega) hb
          obtain ⟨PL, hPL⟩ : ∃ L, L = partL n (mulL P sq (contrL P sq (vecTo n ys n) xs) (scaleL P xs (invF P vq))) := ⟨_, rfl⟩
          have HPL := Lib.hid hPL
          rw [← hPL] at HPAR
          obtain ⟨ML, hML⟩ : ∃ L, L = mulL P sq (contrL P sq (vecTo n ys n) xs) (scaleL P xs (invF P vq)) := ⟨_, rfl⟩
          rw [← hML] at HPAR HTIM
          obtain ⟨CL, hCL⟩ : ∃ L, L = contrL P sq (vecTo n ys n) xs := ⟨_, rfl⟩
          rw [← hCL] at HTIM HCON
          obtain ⟨VL, hVL⟩ : ∃ L, L = vecTo n ys n := ⟨_, rfl⟩
          rw [← hVL] at HCON HVEC
          obtain ⟨IL, hIL⟩ : ∃ L, L = scaleL P xs (invF P vq) := ⟨_, rfl⟩
          rw [← hIL] at HTIM HSCA
          clear hPL hML hCL hVL hIL HTT
          go_wp2
          refine wp_obs 11 [[], [0], [], [], [3], [], [], [5, 6], [3, 4, 5, 6, 7], [0, 1, 2, 3, 4, 5, 6, 7, 8], [0, 1, 2, 3, 4, 5, 6, 7, 8, 9]] [VIs (.agg #[.int .i64 P, .slice A n c]), VIs (.int .i64 (P)), VIs (.slice X (pw n) cx), VIs (.agg #[.int .i64 P, .slice A n c]), VIs (.int .i64 (P)), VIs (.agg #[.int .i64 P, .slice A n c]), VIs (.slice X (pw n) cx), VIs (.int .i64 (vq)), VIs (.int .i64 (invF P vq)), VSl w5 (pw n) IL, VSl w5 (pw n) IL] (fun w' => Blk w' w.heap.size 28 #[.int .i64 P, .slice A n c] ∧ Below w5.heap.size w5 w') (by kernel_rfl) (by kernel_rfl) (fun _ _ h hb => ⟨h.1.below hb h.1.lt, h.2.trans (hb.mono h.2.size)⟩) (⟨k5.drew, (Below.refl _ _).drew⟩) (fun x => ?_)
          refine obs_step (Eq.trans (by simp only [List.getElem?_toArray, List.getElem?_cons_zero]; exact rfl) rfl) rfl (fun w' hS hV K hK => ?_) ?_
          · obtain ⟨q0, q1⟩ := hS.1.two
            go_simp
            exact hK.out _ _ _ rfl rfl rfl (Below.refl _ _)
          simp only [List.setIfInBounds_toArray, List.set_cons_zero, List.set_cons_succ]
          refine obs_step (Eq.trans (by simp only [List.getElem?_toArray, List.getElem?_cons_succ, List.getElem?_cons_zero]; exact rfl) rfl) rfl (fun w' hS hV K hK => ?_) ?_
          · have e0 : x 0 = (.agg #[.int .i64 P, .slice A n c]) := hV 0 (by decide)
            obtain ⟨q0, q1⟩ := hS.1.two
            go_simp
            refine (field_any _ _ _ _ _).mono ?_
            rintro e v1 ⟨rfl, hb⟩
            exact hK.out _ _ _ rfl rfl rfl hb
          simp only [List.setIfInBounds_toArray, List.set_cons_zero, List.set_cons_succ]
          refine obs_step (Eq.trans (by simp only [List.getElem?_toArray, List.getElem?_cons_succ, List.getElem?_cons_zero]; exact rfl) rfl) rfl (fun w' hS hV K hK => ?_) ?_
          · obtain ⟨q0, q1⟩ := hS.1.two
            go_simp
            exact hK.out _ _ _ rfl rfl rfl (Below.refl _ _)
          simp only [List.setIfInBounds_toArray, List.set_cons_zero, List.set_cons_succ]
          refine obs_step (Eq.trans (by simp only [List.getElem?_toArray, List.getElem?_cons_succ, List.getElem?_cons_zero]; exact rfl) rfl) rfl (fun w' hS hV K hK => ?_) ?_
          · obtain ⟨q0, q1⟩ := hS.1.two
            go_simp
            exact hK.out _ _ _ rfl rfl rfl (Below.refl _ _)
          simp only [List.setIfInBounds_toArray, List.set_cons_zero, List.set_cons_succ]
          refine obs_step (Eq.trans (by simp only [List.getElem?_toArray, List.getElem?_cons_succ, List.getElem?_cons_zero]; exact rfl) rfl) rfl (fun w' hS hV K hK => ?_) ?_
          · have e3 : x 3 = (.agg #[.int .i64 P, .slice A n c]) := hV 3 (by decide)
            obtain ⟨q0, q1⟩ := hS.1.two
            go_simp
            refine (field_any _ _ _ _ _).mono ?_
            rintro e v1 ⟨rfl, hb⟩
            exact hK.out _ _ _ rfl rfl rfl hb
          simp only [List.setIfInBounds_toArray, List.set_cons_zero, List.set_cons_succ]
          refine obs_step (Eq.trans (by simp only [List.getElem?_toArray, List.getElem?_cons_succ, List.getElem?_cons_zero]; exact rfl) rfl) rfl (fun w' hS hV K hK => ?_) ?_
          · obtain ⟨q0, q1⟩ := hS.1.two
            go_simp
            exact hK.out _ _ _ rfl rfl rfl (Below.refl _ _)
          simp only [List.setIfInBounds_toArray, List.set_cons_zero, List.set_cons_succ]
          refine obs_step (Eq.trans (by simp only [List.getElem?_toArray, List.getElem?_cons_succ, List.getElem?_cons_zero]; exact rfl) rfl) rfl (fun w' hS hV K hK => ?_) ?_
          · obtain ⟨q0, q1⟩ := hS.1.two
            go_simp
            exact hK.out _ _ _ rfl rfl rfl (Below.refl _ _)
          simp only [List.setIfInBounds_toArray, List.set_cons_zero, List.set_cons_succ]
          refine obs_step (Eq.trans (by simp only [List.getElem?_toArray, List.getElem?_cons_succ, List.getElem?_cons_zero]; exact rfl) rfl) rfl (fun w' hS hV K hK => ?_) ?_
          · have e5 : x 5 = (.agg #[.int .i64 P, .slice A n c]) := hV 5 (by decide)
            have e6 : x 6 = (.slice X (pw n) cx) := hV 6 (by decide)
            obtain ⟨q0, q1⟩ := hS.1.two
            go_simp
            refine (HSQ2.out _ hS.2).mono ?_
            rintro e v1 ⟨rfl, hb⟩
            exact hK.out _ _ _ rfl rfl rfl hb
          simp only [List.setIfInBounds_toArray, List.set_cons_zero, List.set_cons_succ]
          refine obs_step (Eq.trans (by simp only [List.getElem?_toArray, List.getElem?_cons_succ, List.getElem?_cons_zero]; exact rfl) rfl) rfl (fun w' hS hV K hK => ?_) ?_
          · have e3 : x 3 = (.agg #[.int .i64 P, .slice A n c]) := hV 3 (by decide)
            have e4 : x 4 = (.int .i64 (P)) := hV 4 (by decide)
            have e5 : x 5 = (.agg #[.int .i64 P, .slice A n c]) := hV 5 (by decide)
            have e6 : x 6 = (.slice X (pw n) cx) := hV 6 (by decide)
            have e7 : x 7 = (.int .i64 (vq)) := hV 7 (by decide)
            obtain ⟨q0, q1⟩ := hS.1.two
            go_simp
            refine (inv_any P vq _ hp hp2 hv1 hv2).mono ?_
            rintro e v1 ⟨rfl, rfl⟩
            exact hK.out _ _ _ rfl rfl rfl (Below.refl _ _)
          simp only [List.setIfInBounds_toArray, List.set_cons_zero, List.set_cons_succ]
          refine obs_step (Eq.trans (by simp only [List.getElem?_toArray, List.getElem?_cons_succ, List.getElem?_cons_zero]; exact rfl) rfl) rfl (fun w' hS hV K hK => ?_) ?_
          · have e0 : x 0 = (.agg #[.int .i64 P, .slice A n c]) := hV 0 (by decide)
            have e1 : x 1 = (.int .i64 (P)) := hV 1 (by decide)
            have e2 : x 2 = (.slice X (pw n) cx) := hV 2 (by decide)
            have e3 : x 3 = (.agg #[.int .i64 P, .slice A n c]) := hV 3 (by decide)
            have e4 : x 4 = (.int .i64 (P)) := hV 4 (by decide)
            have e5 : x 5 = (.agg #[.int .i64 P, .slice A n c]) := hV 5 (by decide)
            have e6 : x 6 = (.slice X (pw n) cx) := hV 6 (by decide)
            have e7 : x 7 = (.int .i64 (vq)) := hV 7 (by decide)
            have e8 : x 8 = (.int .i64 (invF P vq)) := hV 8 (by decide)
            obtain ⟨q0, q1⟩ := hS.1.two
            go_simp
            refine (HSCA.out _ hS.2).mono ?_
            rintro e v1 ⟨A2, c2, rfl, hM⟩
            exact hK.out _ _ _ rfl rfl ⟨_, _, rfl, hM.after hS.2⟩ hM.b
          simp only [List.setIfInBounds_toArray, List.set_cons_zero, List.set_cons_succ]
          refine obs_step (Eq.trans (by simp only [List.getElem?_toArray, List.getElem?_cons_succ, List.getElem?_cons_zero]; exact rfl) rfl) rfl (fun w' hS hV K hK => ?_) ?_
          · have e0 : x 0 = (.agg #[.int .i64 P, .slice A n c]) := hV 0 (by decide)
            have e1 : x 1 = (.int .i64 (P)) := hV 1 (by decide)
            have e2 : x 2 = (.slice X (pw n) cx) := hV 2 (by decide)
            have e3 : x 3 = (.agg #[.int .i64 P, .slice A n c]) := hV 3 (by decide)
            have e4 : x 4 = (.int .i64 (P)) := hV 4 (by decide)
            have e5 : x 5 = (.agg #[.int .i64 P, .slice A n c]) := hV 5 (by decide)
            have e6 : x 6 = (.slice X (pw n) cx) := hV 6 (by decide)
            have e7 : x 7 = (.int .i64 (vq)) := hV 7 (by decide)
            have e8 : x 8 = (.int .i64 (invF P vq)) := hV 8 (by decide)
            obtain ⟨A9, c9, e9, h9⟩ := hV 9 (by decide)
            obtain ⟨q0, q1⟩ := hS.1.two
            go_simp
            exact hK.out _ _ _ rfl rfl ⟨_, _, rfl, h9⟩ (Below.refl _ _)
          simp only [List.setIfInBounds_toArray, List.set_cons_zero, List.set_cons_succ]
          refine fun w' hS hV => ?_
          have e0 : x 0 = (.agg #[.int .i64 P, .slice A n c]) := hV 0 (by decide)
          have e1 : x 1 = (.int .i64 (P)) := hV 1 (by decide)
          have e2 : x 2 = (.slice X (pw n) cx) := hV 2 (by decide)
          have e3 : x 3 = (.agg #[.int .i64 P, .slice A n c]) := hV 3 (by decide)
          have e4 : x 4 = (.int .i64 (P)) := hV 4 (by decide)
          have e5 : x 5 = (.agg #[.int .i64 P, .slice A n c]) := hV 5 (by decide)
          have e6 : x 6 = (.slice X (pw n) cx) := hV 6 (by decide)
          have e7 : x 7 = (.int .i64 (vq)) := hV 7 (by decide)
          have e8 : x 8 = (.int .i64 (invF P vq)) := hV 8 (by decide)
          obtain ⟨A9, c9, e9, h9⟩ := hV 9 (by decide)
          obtain ⟨A10, c10, e10, h10⟩ := hV 10 (by decide)
          simp only [e0, e1, e2, e3, e4, e5, e6, e7, e8, e9, e10]
          clear e0 e1 e2 e3 e4 e5 e6 e7 e8 e9 e10
          refine wpAny_done (by kernel_rfl) ?_ _
          obtain ⟨w6, rfl⟩ : ∃ W, W = w' := ⟨_, rfl⟩
          have k6 := hS.1
          have hb56 := Lib.hid hS.2
          have hM6 := h10
          obtain ⟨q0, q1⟩ := k6.two
          clear hS
          go_wp2
          refine wp_obs 14 [[], [], [], [], [], [3, 4], [], [2, 3, 4, 5, 6], [], [2, 3, 4, 5, 6, 7, 8], [1, 2, 3, 4, 5, 6, 7, 8, 9], [0, 1, 2, 3, 4, 5, 6, 7, 8, 9, 10], [0, 1, 2, 3, 4, 5, 6, 7, 8, 9, 10, 11], []] [VIs (.agg #[.int .i64 P, .slice A n c]), VIs (.agg #[.int .i64 P, .slice A n c]), VIs (.agg #[.int .i64 P, .slice A n c]), VIs (.agg #[.int .i64 P, .slice A n c]), VIs (.slice Y n cy), VSl w6 (pw n) VL, VIs (.slice X (pw n) cx), VSl w6 (pw n) CL, VSl w5 (pw n) IL, VRow 2 [CL, IL], VSl w6 (pw n) ML, VSl w6 n PL, VSl w6 n PL, VIs (.int .i64 0)] (fun w' => Blk w' w.heap.size 28 #[.int .i64 P, .slice A n c] ∧ Below w6.heap.size w6 w') (by kernel_rfl) (by kernel_rfl) (fun _ _ h hb => ⟨h.1.below hb h.1.lt, h.2.trans (hb.mono h.2.size)⟩) (⟨k6.drew, (Below.refl _ _).drew⟩) (fun x => ?_)
          refine obs_step (Eq.trans (by simp only [List.getElem?_toArray, List.getElem?_cons_zero]; exact rfl) rfl) rfl (fun w' hS hV K hK => ?_) ?_
          · obtain ⟨q0, q1⟩ := hS.1.two
            go_simp
            exact hK.out _ _ _ rfl rfl rfl (Below.refl _ _)
          simp only [List.setIfInBounds_toArray, List.set_cons_zero, List.set_cons_succ]
          refine obs_step (Eq.trans (by simp only [List.getElem?_toArray, List.getElem?_cons_succ, List.getElem?_cons_zero]; exact rfl) rfl) rfl (fun w' hS hV K hK => ?_) ?_
          · obtain ⟨q0, q1⟩ := hS.1.two
            go_simp
            exact hK.out _ _ _ rfl rfl rfl (Below.refl _ _)
          simp only [List.setIfInBounds_toArray, List.set_cons_zero, List.set_cons_succ]
          refine obs_step (Eq.trans (by simp only [List.getElem?_toArray, List.getElem?_cons_succ, List.getElem?_cons_zero]; exact rfl) rfl) rfl (fun w' hS hV K hK => ?_) ?_
          · obtain ⟨q0, q1⟩ := hS.1.two
            go_simp
            exact hK.out _ _ _ rfl rfl rfl (Below.refl _ _)
          simp only [List.setIfInBounds_toArray, List.set_cons_zero, List.set_cons_succ]
          refine obs_step (Eq.trans (by simp only [List.getElem?_toArray, List.getElem?_cons_succ, List.getElem?_cons_zero]; exact rfl) rfl) rfl (fun w' hS hV K hK => ?_) ?_
          · obtain ⟨q0, q1⟩ := hS.1.two
            go_simp
            exact hK.out _ _ _ rfl rfl rfl (Below.refl _ _)
          simp only [List.setIfInBounds_toArray, List.set_cons_zero, List.set_cons_succ]
          refine obs_step (Eq.trans (by simp only [List.getElem?_toArray, List.getElem?_cons_succ, List.getElem?_cons_zero]; exact rfl) rfl) rfl (fun w' hS hV K hK => ?_) ?_
          · obtain ⟨q0, q1⟩ := hS.1.two
            go_simp
            exact hK.out _ _ _ rfl rfl rfl (Below.refl _ _)
          simp only [List.setIfInBounds_toArray, List.set_cons_zero, List.set_cons_succ]
          refine obs_step (Eq.trans (by simp only [List.getElem?_toArray, List.getElem?_cons_succ, List.getElem?_cons_zero]; exact rfl) rfl) rfl (fun w' hS hV K hK => ?_) ?_
          · have e3 : x 3 = (.agg #[.int .i64 P, .slice A n c]) := hV 3 (by decide)
            have e4 : x 4 = (.slice Y n cy) := hV 4 (by decide)
            obtain ⟨q0, q1⟩ := hS.1.two
            go_simp
            refine (HVEC.out _ (hb56.out.trans (hS.2.mono hb56.out.size))).mono ?_
            rintro e v1 ⟨A2, c2, rfl, hM⟩
            exact hK.out _ _ _ rfl rfl ⟨_, _, rfl, hM.after hS.2⟩ hM.b
          simp only [List.setIfInBounds_toArray, List.set_cons_zero, List.set_cons_succ]
          refine obs_step (Eq.trans (by simp only [List.getElem?_toArray, List.getElem?_cons_succ, List.getElem?_cons_zero]; exact rfl) rfl) rfl (fun w' hS hV K hK => ?_) ?_
          · obtain ⟨q0, q1⟩ := hS.1.two
            go_simp
            exact hK.out _ _ _ rfl rfl rfl (Below.refl _ _)
          simp only [List.setIfInBounds_toArray, List.set_cons_zero, List.set_cons_succ]
          refine obs_step (Eq.trans (by simp only [List.getElem?_toArray, List.getElem?_cons_succ, List.getElem?_cons_zero]; exact rfl) rfl) rfl (fun w' hS hV K hK => ?_) ?_
          · have e2 : x 2 = (.agg #[.int .i64 P, .slice A n c]) := hV 2 (by decide)
            have e3 : x 3 = (.agg #[.int .i64 P, .slice A n c]) := hV 3 (by decide)
            have e4 : x 4 = (.slice Y n cy) := hV 4 (by decide)
            obtain ⟨A5, c5, e5, h5⟩ := hV 5 (by decide)
            have e6 : x 6 = (.slice X (pw n) cx) := hV 6 (by decide)
            obtain ⟨q0, q1⟩ := hS.1.two
            go_simp
            refine (HCON.out _ _ _ (hb56.out.trans (hS.2.mono hb56.out.size)) h5.rd).mono ?_
            rintro e v1 ⟨A2, c2, rfl, hM⟩
            exact hK.out _ _ _ rfl rfl ⟨_, _, rfl, hM.after hS.2⟩ hM.b
          simp only [List.setIfInBounds_toArray, List.set_cons_zero, List.set_cons_succ]
          refine obs_step (Eq.trans (by simp only [List.getElem?_toArray, List.getElem?_cons_succ, List.getElem?_cons_zero]; exact rfl) rfl) rfl (fun w' hS hV K hK => ?_) ?_
          · obtain ⟨q0, q1⟩ := hS.1.two
            go_simp
            exact hK.out _ _ _ rfl rfl ⟨_, _, rfl, (hM6.below hS.2)⟩ (Below.refl _ _)
          simp only [List.setIfInBounds_toArray, List.set_cons_zero, List.set_cons_succ]
          refine obs_step (Eq.trans (by simp only [List.getElem?_toArray, List.getElem?_cons_succ, List.getElem?_cons_zero]; exact rfl) rfl) rfl (fun w' hS hV K hK => ?_) ?_
          · have e2 : x 2 = (.agg #[.int .i64 P, .slice A n c]) := hV 2 (by decide)
            have e3 : x 3 = (.agg #[.int .i64 P, .slice A n c]) := hV 3 (by decide)
            have e4 : x 4 = (.slice Y n cy) := hV 4 (by decide)
            obtain ⟨A5, c5, e5, h5⟩ := hV 5 (by decide)
            have e6 : x 6 = (.slice X (pw n) cx) := hV 6 (by decide)
            obtain ⟨A7, c7, e7, h7⟩ := hV 7 (by decide)
            obtain ⟨A8, c8, e8, h8⟩ := hV 8 (by decide)
            obtain ⟨q0, q1⟩ := hS.1.two
            go_simp
            exact hK.out _ _ _ rfl rfl ⟨_, _, rfl, rdII_two (Blk.new _ _ _) (Rd.below (h7.rd) ((Below.refl _ _).alloc (Nat.le_refl _) _)) (Rd.below (h8.rd) ((Below.refl _ _).alloc (Nat.le_refl _) _)) h7.2.cap h8.2.cap⟩ ((Below.refl _ _).alloc (Nat.le_refl _) _)
          simp only [List.setIfInBounds_toArray, List.set_cons_zero, List.set_cons_succ]
          refine obs_step (Eq.trans (by simp only [List.getElem?_toArray, List.getElem?_cons_succ, List.getElem?_cons_zero]; exact rfl) rfl) rfl (fun w' hS hV K hK => ?_) ?_
          · have e1 : x 1 = (.agg #[.int .i64 P, .slice A n c]) := hV 1 (by decide)
            have e2 : x 2 = (.agg #[.int .i64 P, .slice A n c]) := hV 2 (by decide)
            have e3 : x 3 = (.agg #[.int .i64 P, .slice A n c]) := hV 3 (by decide)
            have e4 : x 4 = (.slice Y n cy) := hV 4 (by decide)
            obtain ⟨A5, c5, e5, h5⟩ := hV 5 (by decide)
            have e6 : x 6 = (.slice X (pw n) cx) := hV 6 (by decide)
            obtain ⟨A7, c7, e7, h7⟩ := hV 7 (by decide)
            obtain ⟨A8, c8, e8, h8⟩ := hV 8 (by decide)
            obtain ⟨A9, c9, e9, h9⟩ := hV 9 (by decide)
            obtain ⟨q0, q1⟩ := hS.1.two
            go_simp
            refine (HTIM.out _ _ _ (hb56.out.trans (hS.2.mono hb56.out.size)) h9).mono ?_
            rintro e v1 ⟨A2, c2, rfl, hM⟩
            exact hK.out _ _ _ rfl rfl ⟨_, _, rfl, hM.after hS.2⟩ hM.b
          simp only [List.setIfInBounds_toArray, List.set_cons_zero, List.set_cons_succ]
          refine obs_step (Eq.trans (by simp only [List.getElem?_toArray, List.getElem?_cons_succ, List.getElem?_cons_zero]; exact rfl) rfl) rfl (fun w' hS hV K hK => ?_) ?_
          · have e0 : x 0 = (.agg #[.int .i64 P, .slice A n c]) := hV 0 (by decide)
            have e1 : x 1 = (.agg #[.int .i64 P, .slice A n c]) := hV 1 (by decide)
            have e2 : x 2 = (.agg #[.int .i64 P, .slice A n c]) := hV 2 (by decide)
            have e3 : x 3 = (.agg #[.int .i64 P, .slice A n c]) := hV 3 (by decide)
            have e4 : x 4 = (.slice Y n cy) := hV 4 (by decide)
            obtain ⟨A5, c5, e5, h5⟩ := hV 5 (by decide)
            have e6 : x 6 = (.slice X (pw n) cx) := hV 6 (by decide)
            obtain ⟨A7, c7, e7, h7⟩ := hV 7 (by decide)
            obtain ⟨A8, c8, e8, h8⟩ := hV 8 (by decide)
            obtain ⟨A9, c9, e9, h9⟩ := hV 9 (by decide)
            obtain ⟨A10, c10, e10, h10⟩ := hV 10 (by decide)
            obtain ⟨q0, q1⟩ := hS.1.two
            go_simp
            refine (HPAR.out _ _ _ h10.rd).mono ?_
            rintro e v1 ⟨A2, c2, rfl, hM⟩
            exact hK.out _ _ _ rfl rfl ⟨_, _, rfl, hM.after hS.2⟩ hM.b
          simp only [List.setIfInBounds_toArray, List.set_cons_zero, List.set_cons_succ]
          refine obs_step (Eq.trans (by simp only [List.getElem?_toArray, List.getElem?_cons_succ, List.getElem?_cons_zero]; exact rfl) rfl) rfl (fun w' hS hV K hK => ?_) ?_
          · have e0 : x 0 = (.agg #[.int .i64 P, .slice A n c]) := hV 0 (by decide)
            have e1 : x 1 = (.agg #[.int .i64 P, .slice A n c]) := hV 1 (by decide)
            have e2 : x 2 = (.agg #[.int .i64 P, .slice A n c]) := hV 2 (by decide)
            have e3 : x 3 = (.agg #[.int .i64 P, .slice A n c]) := hV 3 (by decide)
            have e4 : x 4 = (.slice Y n cy) := hV 4 (by decide)
            obtain ⟨A5, c5, e5, h5⟩ := hV 5 (by decide)
            have e6 : x 6 = (.slice X (pw n) cx) := hV 6 (by decide)
            obtain ⟨A7, c7, e7, h7⟩ := hV 7 (by decide)
            obtain ⟨A8, c8, e8, h8⟩ := hV 8 (by decide)
            obtain ⟨A9, c9, e9, h9⟩ := hV 9 (by decide)
            obtain ⟨A10, c10, e10, h10⟩ := hV 10 (by decide)
            obtain ⟨A11, c11, e11, h11⟩ := hV 11 (by decide)
            obtain ⟨q0, q1⟩ := hS.1.two
            go_simp
            exact hK.out _ _ _ rfl rfl ⟨_, _, rfl, h11⟩ (Below.refl _ _)
          simp only [List.setIfInBounds_toArray, List.set_cons_zero, List.set_cons_succ]
          refine obs_step (Eq.trans (by simp only [List.getElem?_toArray, List.getElem?_cons_succ, List.getElem?_cons_zero]; exact rfl) rfl) rfl (fun w' hS hV K hK => ?_) ?_
          · obtain ⟨q0, q1⟩ := hS.1.two
            go_simp
            exact hK.out _ _ _ rfl rfl rfl (Below.refl _ _)
          simp only [List.setIfInBounds_toArray, List.set_cons_zero, List.set_cons_succ]
          refine fun w' hS hV => ?_
          have e0 : x 0 = (.agg #[.int .i64 P, .slice A n c]) := hV 0 (by decide)
          have e1 : x 1 = (.agg #[.int .i64 P, .slice A n c]) := hV 1 (by decide)
          have e2 : x 2 = (.agg #[.int .i64 P, .slice A n c]) := hV 2 (by decide)
          have e3 : x 3 = (.agg #[.int .i64 P, .slice A n c]) := hV 3 (by decide)
          have e4 : x 4 = (.slice Y n cy) := hV 4 (by decide)
          obtain ⟨A5, c5, e5, h5⟩ := hV 5 (by decide)
          have e6 : x 6 = (.slice X (pw n) cx) := hV 6 (by decide)
          obtain ⟨A7, c7, e7, h7⟩ := hV 7 (by decide)
          obtain ⟨A8, c8, e8, h8⟩ := hV 8 (by decide)
          obtain ⟨A9, c9, e9, h9⟩ := hV 9 (by decide)
          obtain ⟨A10, c10, e10, h10⟩ := hV 10 (by decide)
          obtain ⟨A11, c11, e11, h11⟩ := hV 11 (by decide)
          obtain ⟨A12, c12, e12, h12⟩ := hV 12 (by decide)
          have e13 : x 13 = (.int .i64 0) := hV 13 (by decide)
          simp only [e0, e1, e2, e3, e4, e5, e6, e7, e8, e9, e10, e11, e12, e13]
          clear e0 e1 e2 e3 e4 e5 e6 e7 e8 e9 e10 e11 e12 e13
          refine wpAny_done (by kernel_rfl) ?_ _
          go_wp2
          go_ret2
          exact aRow3 (by rw [HCO.out, HPJ.out, ← HPL.out]) (h12.after (hB5.trans (hb56.out.mono hB5.size)))
  · have HCN := Lib.hid (codeLv_ne (v := ys) hcM)
    obtain ⟨r, hr⟩ : ∃ r, r = codeM P sq [xs] := ⟨_, rfl⟩
    have HC5 : Hid (¬ codeLi P sq xs ys = 0 ∧ codeLi P sq xs ys = r) := Lib.hid (by
      have h1 : codeLv P sq xs ys = r := by rw [HCN.out, hr]
      rw [codeLi_ne (by rw [h1, hr]; exact hcM), h1]; exact ⟨by rw [hr]; exact hcM, rfl⟩)
    have b0 : (r != 0) = true := code_ne (by rw [hr]; exact hcM)
    rw [← hr] at hreg
    clear hr hcM
    go_enter Tryz.func75, Tryz.ntmps75
    go_wp2_with fail
    refine hreg.mono ?_
    rintro e w2 ⟨rfl, hb2⟩
    have hB2 := hB1.trans (hb2.mono hB1.size)
    have k2 := k1.below hb2 k1.lt
    obtain ⟨q0, q1⟩ := k2.two
    clear k0 hB0 k1 hB1 hb2
    go_wp2
    go_ret2
    exact noRow3 (by rw [prR_bad HC5.out.1, HC5.out.2]) (hB2)

set_option maxHeartbeats 3200000 in
set_option maxRecDepth 8000 in
theorem l06Invertible_any (P : Int) (A : Option Addr) (n c : Nat) (sq : List Int) (X : Option Addr) (m cx : Nat) (xs : List Int) (Y : Option Addr) (l cy : Nat) (ys : List Int) (w : World) (hn : n ≤ 1048576) (hm : m ≤ 1048576) (hl : l ≤ 1048576) (ha : Rd w A n (ints sq)) (hx : Rd w X m (ints xs)) (hcx : m ≤ cx) (hy : Rd w Y l (ints ys)) (hcy : l ≤ cy) :
    Calls Tryz.prog 73 #[.agg #[.int .i64 P, .slice A n c], .slice X m cx, .slice Y l cy] w fun e w' => e = .returned (.int .i64 (codeLi P sq xs ys)) ∧ Below w.heap.size w w' := by
  have hB0 : Below w.heap.size w (w.alloc (.cells #[.int .i64 P, .slice A n c] 28)) := (Below.refl _ _).alloc (Nat.le_refl _) _
  have k0 : Blk (w.alloc (.cells #[.int .i64 P, .slice A n c] 28)) w.heap.size 28 #[.int .i64 P, .slice A n c] := Blk.new _ _ _
  have hB1 := hB0
  have k1 := k0
  have hreg := l06Vector_any P A n c sq X m cx xs Y l cy ys (w.alloc (.cells #[.int .i64 P, .slice A n c] 28)) hn hm hl (ha.below hB1) (hx.below hB1) hcx (hy.below hB1) hcy
  by_cases hr0 : codeLv P sq xs ys = 0
  · have HCI := Lib.hid (codeLi_eq hr0)
    have hcM := (codeLv_zero hr0).1
    rw [hr0] at hreg
    clear hr0
    obtain ⟨HP, hp, hp2, hd1, hd2, hs0, hms⟩ := codeM_spec3 hcM
    have hsl := ha.lenI
    obtain ⟨hx1, hxs0⟩ := hms xs (by simp)
    have hmx : m = pw n := by rw [← hx.lenI, hx1, hsl]
    subst hmx
    have HSL := Lib.hid hsl
    have HS0 := Lib.hid hs0
    have HXS := Lib.hid hxs0
    have hn6 : n ≤ 6 := by omega
    have hn0 : 0 < n := by omega
    clear hms hx1 hs0 hxs0 hd1 hd2
    clear hsl hcM
    have hmul := fun w' (h : Below w.heap.size w w') => l04Times_any P A n c sq X cx xs X cx xs w' hp hp2 hn6 (ha.below h) HS0.out (hx.below h) HXS.out (hx.below h) HXS.out
    have HMM : Hid (prodL P sq (fun _ _ => true) xs xs = mulL P sq xs xs) := Lib.hid rfl
    obtain ⟨vq, hvq⟩ : ∃ v, v = sqL P sq xs := ⟨_, rfl⟩
    have HVQ := Lib.hid hvq
    have HVD : Hid (vq = (mulL P sq xs xs).getD 0 0) := Lib.hid hvq
    clear hvq
    by_cases hv0 : vq = 0
    · have hb0 : (vq == 0) = true := by simp; exact hv0
      have HV0 := Lib.hid hv0
      clear hv0
      go_enter Tryz.func73, Tryz.ntmps73
      go_wp2_with fail
      refine hreg.mono ?_
      rintro e w2 ⟨rfl, hb2⟩
      have hB2 := hB1.trans (hb2.mono hB1.size)
      have k2 := k1.below hb2 k1.lt
      obtain ⟨q0, q1⟩ := k2.two
      clear k0 hB0 k1 hB1 hb2
      go_wp2_with fail
      refine (hmul _ hB2).mono ?_
      rintro e w3 ⟨A3, c3, rfl, hM⟩
      rcases hM.2.form with ⟨_, hz⟩ | ⟨g3, rfl, _, _⟩
      · exact absurd hz (by have := pw_pos n; omega)
      obtain ⟨hcell, _⟩ := mkI_at hM (pw_pos n)
      have hpos : 0 < pw n := pw_pos n
      rw [HMM.out, ← HVD.out] at hcell
      have HMB := Lib.hid hM.b
      clear hM
      go_wp2
      go_ret
      exact ⟨ret_int (by rw [HCI.out, ← HVQ.out, if_pos HV0.out]), hB2.trans (HMB.out.mono hB2.size)⟩
    · have hb0 : (vq == 0) = false := by simp; exact hv0
      have HV0 := Lib.hid hv0
      clear hv0
      go_enter Tryz.func73, Tryz.ntmps73
      go_wp2_with fail
      refine hreg.mono ?_
      rintro e w2 ⟨rfl, hb2⟩
      have hB2 := hB1.trans (hb2.mono hB1.size)
      have k2 := k1.below hb2 k1.lt
      obtain ⟨q0, q1⟩ := k2.two
      clear k0 hB0 k1 hB1 hb2
      go_wp2_with fail
      refine (hmul _ hB2).mono ?_
      rintro e w3 ⟨A3, c3, rfl, hM⟩
      rcases hM.2.form with ⟨_, hz⟩ | ⟨g3, rfl, _, _⟩
      · exact absurd hz (by have := pw_pos n; omega)
      obtain ⟨hcell, _⟩ := mkI_at hM (pw_pos n)
      have hpos : 0 < pw n := pw_pos n
      rw [HMM.out, ← HVD.out] at hcell
      have HMB := Lib.hid hM.b
      clear hM
      go_wp2
      go_ret
      exact ⟨ret_int (by rw [HCI.out, ← HVQ.out, if_neg HV0.out]), hB2.trans (HMB.out.mono hB2.size)⟩
  · have HCN := Lib.hid (codeLi_ne hr0)
    obtain ⟨r, hr⟩ : ∃ r, r = codeLv P sq xs ys := ⟨_, rfl⟩
    have HR := Lib.hid hr
    have b0 : (r == 0) = false := by rw [hr]; simpa using hr0
    rw [← hr] at hreg
    clear hr hr0
    go_enter Tryz.func73, Tryz.ntmps73
    go_wp2_with fail
    refine hreg.mono ?_
    rintro e w2 ⟨rfl, hb2⟩
    have hB2 := hB1.trans (hb2.mono hB1.size)
    have k2 := k1.below hb2 k1.lt
    obtain ⟨q0, q1⟩ := k2.two
    clear k0 hB0 k1 hB1 hb2
    go_wp2
    go_ret
    exact ⟨ret_int (by rw [HCN.out, HR.out]), hB2⟩

set_option maxHeartbeats 6400000 in
set_option maxRecDepth 8000 in
theorem l06Project_any (P : Int) (A : Option Addr) (n c : Nat) (sq : List Int) (X : Option Addr) (cx : Nat) (xs : List Int) (Y : Option Addr) (cy : Nat) (ys : List Int) (w : World) (HP : isP P = true) (hn6 : n ≤ 6) (ha : Rd w A n (ints sq)) (hs0 : NumsL P sq) (hx : Rd w X (pw n) (ints xs)) (hxs0 : NumsL P xs) (hy : Rd w Y n (ints ys)) (hys0 : NumsL P ys) (h0 : ¬ sqL P sq xs = 0) :
    Calls Tryz.prog 74 #[.agg #[.int .i64 P, .slice A n c], .slice X (pw n) cx, .slice Y n cy] w fun e w' => ∃ A' c', e = .returned (.slice A' n c') ∧ MkI w w' A' n c' (projL P sq n xs ys) := by
  obtain ⟨hp3, hp2⟩ := isP_ge HP
  have hp : 2 ≤ P := by omega
  have hpwl : pw n ≤ 64 := pw_le hn6
  have HS0 := Lib.hid hs0
  have HXS := Lib.hid hxs0
  have HYS := Lib.hid hys0
  have HXL := Lib.hid hx.lenI
  have hB0 : Below w.heap.size w (w.alloc (.cells #[.int .i64 P, .slice A n c] 28)) := (Below.refl _ _).alloc (Nat.le_refl _) _
  have k0 : Blk (w.alloc (.cells #[.int .i64 P, .slice A n c] 28)) w.heap.size 28 #[.int .i64 P, .slice A n c] := Blk.new _ _ _
  obtain ⟨vq, hvq⟩ : ∃ v, v = sqL P sq xs := ⟨_, rfl⟩
  have HVQ := Lib.hid hvq
  have HIV := Lib.hid (invF_small hp vq)
  obtain ⟨hv1, hv2⟩ := sqL_small hp sq xs
  rw [← hvq] at hv1 hv2 h0
  have hv3 : 0 < vq := by omega
  have HPJ : Hid (projL P sq n xs ys = partL n (mulL P sq (contrL P sq (vecTo n ys n) xs) (scaleL P xs (invF P vq)))) := Lib.hid (by unfold projL; rw [← HVQ.out])
  obtain ⟨w1, hw1⟩ : ∃ W, W = (w.alloc (.cells #[.int .i64 P, .slice A n c] 28)) := ⟨_, rfl⟩
  have hB1 : Below w.heap.size w w1 := hw1 ▸ hB0
  have k1 : Blk w1 w.heap.size 28 #[.int .i64 P, .slice A n c] := hw1 ▸ k0
  have HSCA := Lib.hid fun (w' : World) (h : Below w1.heap.size w1 w') => l02Scale_any P X (pw n) cx (invF P vq) xs w' hp hp2 (by omega) ((hx.below hB1).below h) HXS.out (by have := HIV.out; omega) (by have := HIV.out; omega)
  have HVEC := Lib.hid fun (w' : World) (h : Below w1.heap.size w1 w') => l04Vector_any P A n c Y cy ys w' (by omega) ((hy.below hB1).below h)
  have HCON := Lib.hid fun (w' : World) (B : Option Addr) (d : Nat) (h : Below w1.heap.size w1 w') (hb : Rd w' B (pw n) (ints (vecTo n ys n))) => l05Left_any P A n c sq B d (vecTo n ys n) X cx xs w' hp hp2 hn6 ((ha.below hB1).below h) HS0.out hb (vecTo_nums (by omega) n _ HYS.out n) ((hx.below hB1).below h) HXS.out
  have HTIM := Lib.hid fun (w' : World) (B C : Option Addr) (d e : Nat) (h : Below w1.heap.size w1 w') (hb : Rd w' B (pw n) (ints (contrL P sq (vecTo n ys n) xs))) (hc : Rd w' C (pw n) (ints (scaleL P xs (invF P vq)))) => l04Times_any P A n c sq B d (contrL P sq (vecTo n ys n) xs) C e (scaleL P xs (invF P vq)) w' hp hp2 hn6 ((ha.below hB1).below h) HS0.out hb (contrL_nums (by omega) _ _ _) hc (scaleL_nums (by omega) _ _)
  rw [show prodL P sq (fun _ _ => true) (contrL P sq (vecTo n ys n) xs) (scaleL P xs (invF P vq)) = mulL P sq (contrL P sq (vecTo n ys n) xs) (scaleL P xs (invF P vq)) from rfl] at HTIM
  have HPAR := Lib.hid fun (w' : World) (B : Option Addr) (d : Nat) (hb : Rd w' B (pw n) (ints (mulL P sq (contrL P sq (vecTo n ys n) xs) (scaleL P xs (invF P vq))))) => l04List_any P A n c B d (mulL P sq (contrL P sq (vecTo n ys n) xs) (scaleL P xs (invF P vq))) w' (by omega) hb
  obtain ⟨PL, hPL⟩ : ∃ L, L = partL n (mulL P sq (contrL P sq (vecTo n ys n) xs) (scaleL P xs (invF P vq))) := ⟨_, rfl⟩
  have HPL := Lib.hid hPL
  rw [← hPL] at HPAR
  obtain ⟨ML, hML⟩ : ∃ L, L = mulL P sq (contrL P sq (vecTo n ys n) xs) (scaleL P xs (invF P vq)) := ⟨_, rfl⟩
  rw [← hML] at HPAR HTIM
  obtain ⟨CL, hCL⟩ : ∃ L, L = contrL P sq (vecTo n ys n) xs := ⟨_, rfl⟩
  rw [← hCL] at HTIM HCON
  obtain ⟨VL, hVL⟩ : ∃ L, L = vecTo n ys n := ⟨_, rfl⟩
  rw [← hVL] at HCON HVEC
  obtain ⟨IL, hIL⟩ : ∃ L, L = scaleL P xs (invF P vq) := ⟨_, rfl⟩
  rw [← hIL] at HTIM HSCA
  clear hPL hML hCL hVL hIL
  have HSQL := Lib.hid fun (w' : World) (h : Below w1.heap.size w1 w') => l04Times_any P A n c sq X cx xs X cx xs w' hp hp2 hn6 ((ha.below hB1).below h) HS0.out ((hx.below hB1).below h) HXS.out ((hx.below hB1).below h) HXS.out
  rw [show prodL P sq (fun _ _ => true) xs xs = mulL P sq xs xs from rfl] at HSQL
  obtain ⟨SL, hSL⟩ : ∃ L, L = mulL P sq xs xs := ⟨_, rfl⟩
  have HVD : Hid (vq = SL.getD 0 0) := Lib.hid (by rw [hvq, hSL]; rfl)
  rw [← hSL] at HSQL
  clear hs0 hxs0 hys0 hSL hvq h0 hB0 k0
  go_enter Tryz.func74, Tryz.ntmps74
  go_wp2
  rw [← hw1]
  clear hw1
  refine wp_obs 14 [[], [0], [], [], [3], [], [], [], [5, 6, 7], [5, 6, 7, 8], [5, 6, 7, 8, 9], [3, 4, 5, 6, 7, 8, 9, 10], [0, 1, 2, 3, 4, 5, 6, 7, 8, 9, 10, 11], [0, 1, 2, 3, 4, 5, 6, 7, 8, 9, 10, 11, 12]] [VIs (.pointer (some ⟨w.heap.size, 0, none⟩)), VIs (.int .i64 (P)), VIs (.slice X (pw n) cx), VIs (.pointer (some ⟨w.heap.size, 0, none⟩)), VIs (.int .i64 (P)), VIs (.agg #[.int .i64 P, .slice A n c]), VIs (.slice X (pw n) cx), VIs (.slice X (pw n) cx), VSl w1 (pw n) SL, VCell (.int .i64 vq), VIs (.int .i64 (vq)), VIs (.int .i64 (invF P vq)), VSl w1 (pw n) IL, VSl w1 (pw n) IL] (fun w' => Blk w' w.heap.size 28 #[.int .i64 P, .slice A n c] ∧ Below w1.heap.size w1 w') (by kernel_rfl) (by kernel_rfl) (fun _ _ h hb => ⟨h.1.below hb h.1.lt, h.2.trans (hb.mono h.2.size)⟩) (⟨k1.drew, (Below.refl _ _).drew⟩) (fun x => ?_)
  refine obs_step (Eq.trans (by simp only [List.getElem?_toArray, List.getElem?_cons_zero]; exact rfl) rfl) rfl (fun w' hS hV K hK => ?_) ?_
  · obtain ⟨q0, q1⟩ := hS.1.two
    go_simp
    exact hK.out _ _ _ rfl rfl rfl (Below.refl _ _)
  simp only [List.setIfInBounds_toArray, List.set_cons_zero, List.set_cons_succ]
  refine obs_step (Eq.trans (by simp only [List.getElem?_toArray, List.getElem?_cons_succ, List.getElem?_cons_zero]; exact rfl) rfl) rfl (fun w' hS hV K hK => ?_) ?_
  · have e0 : x 0 = (.pointer (some ⟨w.heap.size, 0, none⟩)) := hV 0 (by decide)
    obtain ⟨q0, q1⟩ := hS.1.two
    go_simp
    exact hK.out _ _ _ rfl rfl rfl (Below.refl _ _)
  simp only [List.setIfInBounds_toArray, List.set_cons_zero, List.set_cons_succ]
  refine obs_step (Eq.trans (by simp only [List.getElem?_toArray, List.getElem?_cons_succ, List.getElem?_cons_zero]; exact rfl) rfl) rfl (fun w' hS hV K hK => ?_) ?_
  · obtain ⟨q0, q1⟩ := hS.1.two
    go_simp
    exact hK.out _ _ _ rfl rfl rfl (Below.refl _ _)
  simp only [List.setIfInBounds_toArray, List.set_cons_zero, List.set_cons_succ]
  refine obs_step (Eq.trans (by simp only [List.getElem?_toArray, List.getElem?_cons_succ, List.getElem?_cons_zero]; exact rfl) rfl) rfl (fun w' hS hV K hK => ?_) ?_
  · obtain ⟨q0, q1⟩ := hS.1.two
    go_simp
    exact hK.out _ _ _ rfl rfl rfl (Below.refl _ _)
  simp only [List.setIfInBounds_toArray, List.set_cons_zero, List.set_cons_succ]
  refine obs_step (Eq.trans (by simp only [List.getElem?_toArray, List.getElem?_cons_succ, List.getElem?_cons_zero]; exact rfl) rfl) rfl (fun w' hS hV K hK => ?_) ?_
  · have e3 : x 3 = (.pointer (some ⟨w.heap.size, 0, none⟩)) := hV 3 (by decide)
    obtain ⟨q0, q1⟩ := hS.1.two
    go_simp
    exact hK.out _ _ _ rfl rfl rfl (Below.refl _ _)
  simp only [List.setIfInBounds_toArray, List.set_cons_zero, List.set_cons_succ]
  refine obs_step (Eq.trans (by simp only [List.getElem?_toArray, List.getElem?_cons_succ, List.getElem?_cons_zero]; exact rfl) rfl) rfl (fun w' hS hV K hK => ?_) ?_
  · obtain ⟨q0, q1⟩ := hS.1.two
    go_simp
    exact hK.out _ _ _ rfl rfl rfl (Below.refl _ _)
  simp only [List.setIfInBounds_toArray, List.set_cons_zero, List.set_cons_succ]
  refine obs_step (Eq.trans (by simp only [List.getElem?_toArray, List.getElem?_cons_succ, List.getElem?_cons_zero]; exact rfl) rfl) rfl (fun w' hS hV K hK => ?_) ?_
  · obtain ⟨q0, q1⟩ := hS.1.two
    go_simp
    exact hK.out _ _ _ rfl rfl rfl (Below.refl _ _)
  simp only [List.setIfInBounds_toArray, List.set_cons_zero, List.set_cons_succ]
  refine obs_step (Eq.trans (by simp only [List.getElem?_toArray, List.getElem?_cons_succ, List.getElem?_cons_zero]; exact rfl) rfl) rfl (fun w' hS hV K hK => ?_) ?_
  · obtain ⟨q0, q1⟩ := hS.1.two
    go_simp
    exact hK.out _ _ _ rfl rfl rfl (Below.refl _ _)
  simp only [List.setIfInBounds_toArray, List.set_cons_zero, List.set_cons_succ]
  refine obs_step (Eq.trans (by simp only [List.getElem?_toArray, List.getElem?_cons_succ, List.getElem?_cons_zero]; exact rfl) rfl) rfl (fun w' hS hV K hK => ?_) ?_
  · have e5 : x 5 = (.agg #[.int .i64 P, .slice A n c]) := hV 5 (by decide)
    have e6 : x 6 = (.slice X (pw n) cx) := hV 6 (by decide)
    have e7 : x 7 = (.slice X (pw n) cx) := hV 7 (by decide)
    obtain ⟨q0, q1⟩ := hS.1.two
    go_simp
    refine (HSQL.out _ hS.2).mono ?_
    rintro e v1 ⟨A2, c2, rfl, hM⟩
    exact hK.out _ _ _ rfl rfl ⟨_, _, rfl, hM.after hS.2⟩ hM.b
  simp only [List.setIfInBounds_toArray, List.set_cons_zero, List.set_cons_succ]
  refine obs_step (Eq.trans (by simp only [List.getElem?_toArray, List.getElem?_cons_succ, List.getElem?_cons_zero]; exact rfl) rfl) rfl (fun w' hS hV K hK => ?_) ?_
  · have e5 : x 5 = (.agg #[.int .i64 P, .slice A n c]) := hV 5 (by decide)
    have e6 : x 6 = (.slice X (pw n) cx) := hV 6 (by decide)
    have e7 : x 7 = (.slice X (pw n) cx) := hV 7 (by decide)
    obtain ⟨A8, c8, e8, h8⟩ := hV 8 (by decide)
    obtain ⟨q0, q1⟩ := hS.1.two
    rcases h8.2.form with ⟨_, hz⟩ | ⟨gc, hgc, _, _⟩
    · exact absurd hz (by have := pw_pos n; omega)
    subst hgc
    obtain ⟨hcell, _⟩ := mkI_at h8 (pw_pos n)
    rw [← HVD.out] at hcell
    have hposI : 0 < pw n := pw_pos n
    go_simp
    exact hK.out _ _ _ rfl rfl ⟨_, rfl, hcell⟩ (Below.refl _ _)
  simp only [List.setIfInBounds_toArray, List.set_cons_zero, List.set_cons_succ]
  refine obs_step (Eq.trans (by simp only [List.getElem?_toArray, List.getElem?_cons_succ, List.getElem?_cons_zero]; exact rfl) rfl) rfl (fun w' hS hV K hK => ?_) ?_
  · have e5 : x 5 = (.agg #[.int .i64 P, .slice A n c]) := hV 5 (by decide)
    have e6 : x 6 = (.slice X (pw n) cx) := hV 6 (by decide)
    have e7 : x 7 = (.slice X (pw n) cx) := hV 7 (by decide)
    obtain ⟨A8, c8, e8, h8⟩ := hV 8 (by decide)
    obtain ⟨p9, e9, h9⟩ := hV 9 (by decide)
    obtain ⟨q0, q1⟩ := hS.1.two
    go_simp
    exact hK.out _ _ _ rfl rfl rfl (Below.refl _ _)
  simp only [List.setIfInBounds_toArray, List.set_cons_zero, List.set_cons_succ]
  refine obs_step (Eq.trans (by simp only [List.getElem?_toArray, List.getElem?_cons_succ, List.getElem?_cons_zero]; exact rfl) rfl) rfl (fun w' hS hV K hK => ?_) ?_
  · have e3 : x 3 = (.pointer (some ⟨w.heap.size, 0, none⟩)) := hV 3 (by decide)
    have e4 : x 4 = (.int .i64 (P)) := hV 4 (by decide)
    have e5 : x 5 = (.agg #[.int .i64 P, .slice A n c]) := hV 5 (by decide)
    have e6 : x 6 = (.slice X (pw n) cx) := hV 6 (by decide)
    have e7 : x 7 = (.slice X (pw n) cx) := hV 7 (by decide)
    obtain ⟨A8, c8, e8, h8⟩ := hV 8 (by decide)
    obtain ⟨p9, e9, h9⟩ := hV 9 (by decide)
    have e10 : x 10 = (.int .i64 (vq)) := hV 10 (by decide)
    obtain ⟨q0, q1⟩ := hS.1.two
    go_simp
    refine (l01Inv_any P vq _ HP hv3 hv2).mono ?_
    rintro e v1 ⟨rfl, rfl⟩
    exact hK.out _ _ _ rfl rfl rfl (Below.refl _ _)
  simp only [List.setIfInBounds_toArray, List.set_cons_zero, List.set_cons_succ]
  refine obs_step (Eq.trans (by simp only [List.getElem?_toArray, List.getElem?_cons_succ, List.getElem?_cons_zero]; exact rfl) rfl) rfl (fun w' hS hV K hK => ?_) ?_
  · have e0 : x 0 = (.pointer (some ⟨w.heap.size, 0, none⟩)) := hV 0 (by decide)
    have e1 : x 1 = (.int .i64 (P)) := hV 1 (by decide)
    have e2 : x 2 = (.slice X (pw n) cx) := hV 2 (by decide)
    have e3 : x 3 = (.pointer (some ⟨w.heap.size, 0, none⟩)) := hV 3 (by decide)
    have e4 : x 4 = (.int .i64 (P)) := hV 4 (by decide)
    have e5 : x 5 = (.agg #[.int .i64 P, .slice A n c]) := hV 5 (by decide)
    have e6 : x 6 = (.slice X (pw n) cx) := hV 6 (by decide)
    have e7 : x 7 = (.slice X (pw n) cx) := hV 7 (by decide)
    obtain ⟨A8, c8, e8, h8⟩ := hV 8 (by decide)
    obtain ⟨p9, e9, h9⟩ := hV 9 (by decide)
    have e10 : x 10 = (.int .i64 (vq)) := hV 10 (by decide)
    have e11 : x 11 = (.int .i64 (invF P vq)) := hV 11 (by decide)
    obtain ⟨q0, q1⟩ := hS.1.two
    go_simp
    refine (HSCA.out _ hS.2).mono ?_
    rintro e v1 ⟨A2, c2, rfl, hM⟩
    exact hK.out _ _ _ rfl rfl ⟨_, _, rfl, hM.after hS.2⟩ hM.b
  simp only [List.setIfInBounds_toArray, List.set_cons_zero, List.set_cons_succ]
  refine obs_step (Eq.trans (by simp only [List.getElem?_toArray, List.getElem?_cons_succ, List.getElem?_cons_zero]; exact rfl) rfl) rfl (fun w' hS hV K hK => ?_) ?_
  · have e0 : x 0 = (.pointer (some ⟨w.heap.size, 0, none⟩)) := hV 0 (by decide)
    have e1 : x 1 = (.int .i64 (P)) := hV 1 (by decide)
    have e2 : x 2 = (.slice X (pw n) cx) := hV 2 (by decide)
    have e3 : x 3 = (.pointer (some ⟨w.heap.size, 0, none⟩)) := hV 3 (by decide)
    have e4 : x 4 = (.int .i64 (P)) := hV 4 (by decide)
    have e5 : x 5 = (.agg #[.int .i64 P, .slice A n c]) := hV 5 (by decide)
    have e6 : x 6 = (.slice X (pw n) cx) := hV 6 (by decide)
    have e7 : x 7 = (.slice X (pw n) cx) := hV 7 (by decide)
    obtain ⟨A8, c8, e8, h8⟩ := hV 8 (by decide)
    obtain ⟨p9, e9, h9⟩ := hV 9 (by decide)
    have e10 : x 10 = (.int .i64 (vq)) := hV 10 (by decide)
    have e11 : x 11 = (.int .i64 (invF P vq)) := hV 11 (by decide)
    obtain ⟨A12, c12, e12, h12⟩ := hV 12 (by decide)
    obtain ⟨q0, q1⟩ := hS.1.two
    go_simp
    exact hK.out _ _ _ rfl rfl ⟨_, _, rfl, h12⟩ (Below.refl _ _)
  simp only [List.setIfInBounds_toArray, List.set_cons_zero, List.set_cons_succ]
  refine fun w' hS hV => ?_
  have e0 : x 0 = (.pointer (some ⟨w.heap.size, 0, none⟩)) := hV 0 (by decide)
  have e1 : x 1 = (.int .i64 (P)) := hV 1 (by decide)
  have e2 : x 2 = (.slice X (pw n) cx) := hV 2 (by decide)
  have e3 : x 3 = (.pointer (some ⟨w.heap.size, 0, none⟩)) := hV 3 (by decide)
  have e4 : x 4 = (.int .i64 (P)) := hV 4 (by decide)
  have e5 : x 5 = (.agg #[.int .i64 P, .slice A n c]) := hV 5 (by decide)
  have e6 : x 6 = (.slice X (pw n) cx) := hV 6 (by decide)
  have e7 : x 7 = (.slice X (pw n) cx) := hV 7 (by decide)
  obtain ⟨A8, c8, e8, h8⟩ := hV 8 (by decide)
  obtain ⟨p9, e9, h9⟩ := hV 9 (by decide)
  have e10 : x 10 = (.int .i64 (vq)) := hV 10 (by decide)
  have e11 : x 11 = (.int .i64 (invF P vq)) := hV 11 (by decide)
  obtain ⟨A12, c12, e12, h12⟩ := hV 12 (by decide)
  obtain ⟨A13, c13, e13, h13⟩ := hV 13 (by decide)
  simp only [e0, e1, e2, e3, e4, e5, e6, e7, e8, e9, e10, e11, e12, e13]
  clear e0 e1 e2 e3 e4 e5 e6 e7 e8 e9 e10 e11 e12 e13
  refine wpAny_done (by kernel_rfl) ?_ _
  obtain ⟨w2, rfl⟩ : ∃ W, W = w' := ⟨_, rfl⟩
  have k2 := hS.1
  have hb12 := Lib.hid hS.2
  have hM7 := h13
  obtain ⟨q0, q1⟩ := k2.two
  clear hS
  go_wp2
  refine wp_obs 12 [[], [], [], [], [], [3, 4], [], [2, 3, 4, 5, 6], [], [1, 2, 3, 4, 5, 6, 7, 8], [0, 1, 2, 3, 4, 5, 6, 7, 8, 9], [0, 1, 2, 3, 4, 5, 6, 7, 8, 9, 10]] [VIs (.agg #[.int .i64 P, .slice A n c]), VIs (.agg #[.int .i64 P, .slice A n c]), VIs (.agg #[.int .i64 P, .slice A n c]), VIs (.agg #[.int .i64 P, .slice A n c]), VIs (.slice Y n cy), VSl w2 (pw n) VL, VIs (.slice X (pw n) cx), VSl w2 (pw n) CL, VSl w1 (pw n) IL, VSl w2 (pw n) ML, VSl w2 n PL, VSl w2 n PL] (fun w' => Blk w' w.heap.size 28 #[.int .i64 P, .slice A n c] ∧ Below w2.heap.size w2 w') (by kernel_rfl) (by kernel_rfl) (fun _ _ h hb => ⟨h.1.below hb h.1.lt, h.2.trans (hb.mono h.2.size)⟩) (⟨k2.drew, (Below.refl _ _).drew⟩) (fun x => ?_)
  refine obs_step (Eq.trans (by simp only [List.getElem?_toArray, List.getElem?_cons_zero]; exact rfl) rfl) rfl (fun w' hS hV K hK => ?_) ?_
  · obtain ⟨q0, q1⟩ := hS.1.two
    go_simp
    exact hK.out _ _ _ rfl rfl rfl (Below.refl _ _)
  simp only [List.setIfInBounds_toArray, List.set_cons_zero, List.set_cons_succ]
  refine obs_step (Eq.trans (by simp only [List.getElem?_toArray, List.getElem?_cons_succ, List.getElem?_cons_zero]; exact rfl) rfl) rfl (fun w' hS hV K hK => ?_) ?_
  · obtain ⟨q0, q1⟩ := hS.1.two
    go_simp
    exact hK.out _ _ _ rfl rfl rfl (Below.refl _ _)
  simp only [List.setIfInBounds_toArray, List.set_cons_zero, List.set_cons_succ]
  refine obs_step (Eq.trans (by simp only [List.getElem?_toArray, List.getElem?_cons_succ, List.getElem?_cons_zero]; exact rfl) rfl) rfl (fun w' hS hV K hK => ?_) ?_
  · obtain ⟨q0, q1⟩ := hS.1.two
    go_simp
    exact hK.out _ _ _ rfl rfl rfl (Below.refl _ _)
  simp only [List.setIfInBounds_toArray, List.set_cons_zero, List.set_cons_succ]
  refine obs_step (Eq.trans (by simp only [List.getElem?_toArray, List.getElem?_cons_succ, List.getElem?_cons_zero]; exact rfl) rfl) rfl (fun w' hS hV K hK => ?_) ?_
  · obtain ⟨q0, q1⟩ := hS.1.two
    go_simp
    exact hK.out _ _ _ rfl rfl rfl (Below.refl _ _)
  simp only [List.setIfInBounds_toArray, List.set_cons_zero, List.set_cons_succ]
  refine obs_step (Eq.trans (by simp only [List.getElem?_toArray, List.getElem?_cons_succ, List.getElem?_cons_zero]; exact rfl) rfl) rfl (fun w' hS hV K hK => ?_) ?_
  · obtain ⟨q0, q1⟩ := hS.1.two
    go_simp
    exact hK.out _ _ _ rfl rfl rfl (Below.refl _ _)
  simp only [List.setIfInBounds_toArray, List.set_cons_zero, List.set_cons_succ]
  refine obs_step (Eq.trans (by simp only [List.getElem?_toArray, List.getElem?_cons_succ, List.getElem?_cons_zero]; exact rfl) rfl) rfl (fun w' hS hV K hK => ?_) ?_
  · have e3 : x 3 = (.agg #[.int .i64 P, .slice A n c]) := hV 3 (by decide)
    have e4 : x 4 = (.slice Y n cy) := hV 4 (by decide)
    obtain ⟨q0, q1⟩ := hS.1.two
    go_simp
    refine (HVEC.out _ (hb12.out.trans (hS.2.mono hb12.out.size))).mono ?_
    rintro e v1 ⟨A2, c2, rfl, hM⟩
    exact hK.out _ _ _ rfl rfl ⟨_, _, rfl, hM.after hS.2⟩ hM.b
  simp only [List.setIfInBounds_toArray, List.set_cons_zero, List.set_cons_succ]
  refine obs_step (Eq.trans (by simp only [List.getElem?_toArray, List.getElem?_cons_succ, List.getElem?_cons_zero]; exact rfl) rfl) rfl (fun w' hS hV K hK => ?_) ?_
  · obtain ⟨q0, q1⟩ := hS.1.two
    go_simp
    exact hK.out _ _ _ rfl rfl rfl (Below.refl _ _)
  simp only [List.setIfInBounds_toArray, List.set_cons_zero, List.set_cons_succ]
  refine obs_step (Eq.trans (by simp only [List.getElem?_toArray, List.getElem?_cons_succ, List.getElem?_cons_zero]; exact rfl) rfl) rfl (fun w' hS hV K hK => ?_) ?_
  · have e2 : x 2 = (.agg #[.int .i64 P, .slice A n c]) := hV 2 (by decide)
    have e3 : x 3 = (.agg #[.int .i64 P, .slice A n c]) := hV 3 (by decide)
    have e4 : x 4 = (.slice Y n cy) := hV 4 (by decide)
    obtain ⟨A5, c5, e5, h5⟩ := hV 5 (by decide)
    have e6 : x 6 = (.slice X (pw n) cx) := hV 6 (by decide)
    obtain ⟨q0, q1⟩ := hS.1.two
    go_simp
    refine (HCON.out _ _ _ (hb12.out.trans (hS.2.mono hb12.out.size)) h5.rd).mono ?_
    rintro e v1 ⟨A2, c2, rfl, hM⟩
    exact hK.out _ _ _ rfl rfl ⟨_, _, rfl, hM.after hS.2⟩ hM.b
  simp only [List.setIfInBounds_toArray, List.set_cons_zero, List.set_cons_succ]
  refine obs_step (Eq.trans (by simp only [List.getElem?_toArray, List.getElem?_cons_succ, List.getElem?_cons_zero]; exact rfl) rfl) rfl (fun w' hS hV K hK => ?_) ?_
  · obtain ⟨q0, q1⟩ := hS.1.two
    go_simp
    exact hK.out _ _ _ rfl rfl ⟨_, _, rfl, (hM7.below hS.2)⟩ (Below.refl _ _)
  simp only [List.setIfInBounds_toArray, List.set_cons_zero, List.set_cons_succ]
  refine obs_step (Eq.trans (by simp only [List.getElem?_toArray, List.getElem?_cons_succ, List.getElem?_cons_zero]; exact rfl) rfl) rfl (fun w' hS hV K hK => ?_) ?_
  · have e1 : x 1 = (.agg #[.int .i64 P, .slice A n c]) := hV 1 (by decide)
    have e2 : x 2 = (.agg #[.int .i64 P, .slice A n c]) := hV 2 (by decide)
    have e3 : x 3 = (.agg #[.int .i64 P, .slice A n c]) := hV 3 (by decide)
    have e4 : x 4 = (.slice Y n cy) := hV 4 (by decide)
    obtain ⟨A5, c5, e5, h5⟩ := hV 5 (by decide)
    have e6 : x 6 = (.slice X (pw n) cx) := hV 6 (by decide)
    obtain ⟨A7, c7, e7, h7⟩ := hV 7 (by decide)
    obtain ⟨A8, c8, e8, h8⟩ := hV 8 (by decide)
    obtain ⟨q0, q1⟩ := hS.1.two
    go_simp
    refine (HTIM.out _ _ _ _ _ (hb12.out.trans (hS.2.mono hb12.out.size)) h7.rd h8.rd).mono ?_
    rintro e v1 ⟨A2, c2, rfl, hM⟩
    exact hK.out _ _ _ rfl rfl ⟨_, _, rfl, hM.after hS.2⟩ hM.b
  simp only [List.setIfInBounds_toArray, List.set_cons_zero, List.set_cons_succ]
  refine obs_step (Eq.trans (by simp only [List.getElem?_toArray, List.getElem?_cons_succ, List.getElem?_cons_zero]; exact rfl) rfl) rfl (fun w' hS hV K hK => ?_) ?_
  · have e0 : x 0 = (.agg #[.int .i64 P, .slice A n c]) := hV 0 (by decide)
    have e1 : x 1 = (.agg #[.int .i64 P, .slice A n c]) := hV 1 (by decide)
    have e2 : x 2 = (.agg #[.int .i64 P, .slice A n c]) := hV 2 (by decide)
    have e3 : x 3 = (.agg #[.int .i64 P, .slice A n c]) := hV 3 (by decide)
    have e4 : x 4 = (.slice Y n cy) := hV 4 (by decide)
    obtain ⟨A5, c5, e5, h5⟩ := hV 5 (by decide)
    have e6 : x 6 = (.slice X (pw n) cx) := hV 6 (by decide)
    obtain ⟨A7, c7, e7, h7⟩ := hV 7 (by decide)
    obtain ⟨A8, c8, e8, h8⟩ := hV 8 (by decide)
    obtain ⟨A9, c9, e9, h9⟩ := hV 9 (by decide)
    obtain ⟨q0, q1⟩ := hS.1.two
    go_simp
    refine (HPAR.out _ _ _ h9.rd).mono ?_
    rintro e v1 ⟨A2, c2, rfl, hM⟩
    exact hK.out _ _ _ rfl rfl ⟨_, _, rfl, hM.after hS.2⟩ hM.b
  simp only [List.setIfInBounds_toArray, List.set_cons_zero, List.set_cons_succ]
  refine obs_step (Eq.trans (by simp only [List.getElem?_toArray, List.getElem?_cons_succ, List.getElem?_cons_zero]; exact rfl) rfl) rfl (fun w' hS hV K hK => ?_) ?_
  · have e0 : x 0 = (.agg #[.int .i64 P, .slice A n c]) := hV 0 (by decide)
    have e1 : x 1 = (.agg #[.int .i64 P, .slice A n c]) := hV 1 (by decide)
    have e2 : x 2 = (.agg #[.int .i64 P, .slice A n c]) := hV 2 (by decide)
    have e3 : x 3 = (.agg #[.int .i64 P, .slice A n c]) := hV 3 (by decide)
    have e4 : x 4 = (.slice Y n cy) := hV 4 (by decide)
    obtain ⟨A5, c5, e5, h5⟩ := hV 5 (by decide)
    have e6 : x 6 = (.slice X (pw n) cx) := hV 6 (by decide)
    obtain ⟨A7, c7, e7, h7⟩ := hV 7 (by decide)
    obtain ⟨A8, c8, e8, h8⟩ := hV 8 (by decide)
    obtain ⟨A9, c9, e9, h9⟩ := hV 9 (by decide)
    obtain ⟨A10, c10, e10, h10⟩ := hV 10 (by decide)
    obtain ⟨q0, q1⟩ := hS.1.two
    go_simp
    exact hK.out _ _ _ rfl rfl ⟨_, _, rfl, h10⟩ (Below.refl _ _)
  simp only [List.setIfInBounds_toArray, List.set_cons_zero, List.set_cons_succ]
  refine fun w' hS hV => ?_
  have e0 : x 0 = (.agg #[.int .i64 P, .slice A n c]) := hV 0 (by decide)
  have e1 : x 1 = (.agg #[.int .i64 P, .slice A n c]) := hV 1 (by decide)
  have e2 : x 2 = (.agg #[.int .i64 P, .slice A n c]) := hV 2 (by decide)
  have e3 : x 3 = (.agg #[.int .i64 P, .slice A n c]) := hV 3 (by decide)
  have e4 : x 4 = (.slice Y n cy) := hV 4 (by decide)
  obtain ⟨A5, c5, e5, h5⟩ := hV 5 (by decide)
  have e6 : x 6 = (.slice X (pw n) cx) := hV 6 (by decide)
  obtain ⟨A7, c7, e7, h7⟩ := hV 7 (by decide)
  obtain ⟨A8, c8, e8, h8⟩ := hV 8 (by decide)
  obtain ⟨A9, c9, e9, h9⟩ := hV 9 (by decide)
  obtain ⟨A10, c10, e10, h10⟩ := hV 10 (by decide)
  obtain ⟨A11, c11, e11, h11⟩ := hV 11 (by decide)
  simp only [e0, e1, e2, e3, e4, e5, e6, e7, e8, e9, e10, e11]
  clear e0 e1 e2 e3 e4 e5 e6 e7 e8 e9 e10 e11
  refine wpAny_done (by kernel_rfl) ?_ _
  go_wp2
  go_ret
  exact ⟨_, _, rfl, by rw [HPJ.out, ← HPL.out]; exact h11.after (hB1.trans (hb12.out.mono hB1.size))⟩

set_option maxRecDepth 8000 in
set_option maxHeartbeats 800000 in
theorem ProjectOnto_any (P : Int) (A : Option Addr) (n c : Nat) (sq : List Int) (X : Option Addr) (m cx : Nat) (xs : List Int) (Y : Option Addr) (l cy : Nat) (ys : List Int) (w : World) (hn : n ≤ 1048576) (hm : m ≤ 1048576) (hl : l ≤ 1048576) (ha : Rd w A n (ints sq)) (hx : Rd w X m (ints xs)) (hcx : m ≤ cx) (hy : Rd w Y l (ints ys)) (hcy : l ≤ cy) :
    Calls Tryz.prog 38 #[.agg #[.int .i64 P, .slice A n c], .slice X m cx, .slice Y l cy] w fun e w' => ∃ (A' : Option Addr) (k c' : Nat), e = .returned (.tuple #[.slice A' k c', .int .i64 (prR P sq xs ys).2]) ∧ MkI w w' A' k c' (prR P sq xs ys).1 := by
  have hB0 : Below w.heap.size w (w.alloc (.cells #[.int .i64 P, .slice A n c] 28)) := (Below.refl _ _).alloc (Nat.le_refl _) _
  have k0 : Blk (w.alloc (.cells #[.int .i64 P, .slice A n c] 28)) w.heap.size 28 #[.int .i64 P, .slice A n c] := Blk.new _ _ _
  obtain ⟨q0, q1⟩ := k0.two
  have hcall := projection_any P A n c sq X m cx xs Y l cy ys (w.alloc (.cells #[.int .i64 P, .slice A n c] 28)) hn hm hl (ha.below hB0) (hx.below hB0) hcx (hy.below hB0) hcy
  clear k0
  go_enter Tryz.func38, Tryz.ntmps38
  go_wp2_with fail
  refine hcall.mono ?_
  rintro e w2 ⟨A2, k2, c2, rfl, hM⟩
  go_wp2
  go_ret2
  exact ⟨_, _, _, rfl, hM.after hB0⟩

set_option maxHeartbeats 3200000 in
set_option maxRecDepth 8000 in
theorem specProjectOnto_any (P : Int) (A : Option Addr) (n c : Nat) (sq : List Int) (X : Option Addr) (m cx : Nat) (xs : List Int) (Y : Option Addr) (l cy : Nat) (ys : List Int) (w : World) (hn : n ≤ 1048576) (hm : m ≤ 1048576) (hl : l ≤ 1048576) (ha : Rd w A n (ints sq)) (hx : Rd w X m (ints xs)) (hcx : m ≤ cx) (hy : Rd w Y l (ints ys)) (hcy : l ≤ cy) :
    Calls Tryz.prog 37 #[.agg #[.int .i64 P, .slice A n c], .slice X m cx, .slice Y l cy] w fun e w' => ∃ (A' : Option Addr) (k c' : Nat), e = .returned (.tuple #[.slice A' k c', .int .i64 (prR P sq xs ys).2]) ∧ MkI w w' A' k c' (prR P sq xs ys).1 := by
  have hB0 : Below w.heap.size w (w.alloc (.cells #[.int .i64 P, .slice A n c] 28)) := (Below.refl _ _).alloc (Nat.le_refl _) _
  have k0 : Blk (w.alloc (.cells #[.int .i64 P, .slice A n c] 28)) w.heap.size 28 #[.int .i64 P, .slice A n c] := Blk.new _ _ _
  have hB1 := hB0
  have k1 := k0
  have hreg := l06Invertible_any P A n c sq X m cx xs Y l cy ys (w.alloc (.cells #[.int .i64 P, .slice A n c] 28)) hn hm hl (ha.below hB1) (hx.below hB1) hcx (hy.below hB1) hcy
  by_cases hr0 : codeLi P sq xs ys = 0
  · skip
    obtain ⟨hcv0, hsq0⟩ := codeLi_zero hr0
    obtain ⟨hcM, hve, hbl0⟩ := codeLv_zero hcv0
    obtain ⟨hly0, hys0⟩ := isVe_spec3 hve
    have hly : n = l := by rw [← hy.lenI, hly0, ha.lenI]
    subst hly
    have HYS := Lib.hid hys0
    have HSQ0 := Lib.hid hsq0
    clear hve hbl0 hly0 hys0 hcv0 hsq0
    rw [hr0] at hreg
    have HR0 := Lib.hid hr0
    clear hr0
    obtain ⟨HP, hp, hp2, hd1, hd2, hs0, hms⟩ := codeM_spec3 hcM
    have hsl := ha.lenI
    obtain ⟨hx1, hxs0⟩ := hms xs (by simp)
    have hmx : m = pw n := by rw [← hx.lenI, hx1, hsl]
    subst hmx
    have HSL := Lib.hid hsl
    have HS0 := Lib.hid hs0
    have HXS := Lib.hid hxs0
    have hn6 : n ≤ 6 := by omega
    have hn0 : 0 < n := by omega
    clear hsl hms hx1 hs0 hxs0 hd1 hd2 hcM
    go_enter Tryz.func37, Tryz.ntmps37
    go_wp2_with fail
    refine hreg.mono ?_
    rintro e w2 ⟨rfl, hb2⟩
    have hB2 := hB1.trans (hb2.mono hB1.size)
    have k2 := k1.below hb2 k1.lt
    obtain ⟨q0, q1⟩ := k2.two
    clear k0 hB0 k1 hB1 hb2
    go_wp2_with fail
    refine (l06Project_any P A n c sq X cx xs Y cy ys _ HP hn6 (ha.below hB2) HS0.out (hx.below hB2) HXS.out (hy.below hB2) HYS.out HSQ0.out).mono ?_
    rintro e w3 ⟨A3, c3, rfl, hM⟩
    go_wp2
    go_ret2
    exact aRow3 (by rw [prR_ok HR0.out, HSL.out]) (hM.after hB2)
  · obtain ⟨r, hr⟩ : ∃ r, r = codeLi P sq xs ys := ⟨_, rfl⟩
    have HR := Lib.hid hr
    have HR0 := Lib.hid hr0
    have b0 : (r != 0) = true := code_ne (by rw [hr]; exact hr0)
    rw [← hr] at hreg
    clear hr hr0
    go_enter Tryz.func37, Tryz.ntmps37
    go_wp2_with fail
    refine hreg.mono ?_
    rintro e w2 ⟨rfl, hb2⟩
    have hB2 := hB1.trans (hb2.mono hB1.size)
    have k2 := k1.below hb2 k1.lt
    obtain ⟨q0, q1⟩ := k2.two
    clear k0 hB0 k1 hB1 hb2
    go_wp2
    go_ret2
    exact noRow3 (by rw [prR_bad HR0.out, HR.out]) hB2

/-- RejectFrom. -/
def rejR (P : Int) (sq : List Int) (xs : List Int) (v : List Int) : List Int × Int := if codeLi P sq xs v = 0 then (plusL P v (projL P sq sq.length xs v) (-1), 0) else ([], codeLi P sq xs v)
theorem rejR_ok {P : Int} {sq xs v : List Int} (h : codeLi P sq xs v = 0) : rejR P sq xs v = (plusL P v (projL P sq sq.length xs v) (-1), 0) := by unfold rejR; rw [if_pos h]
theorem rejR_bad {P : Int} {sq xs v : List Int} (h : ¬ codeLi P sq xs v = 0) : rejR P sq xs v = ([], codeLi P sq xs v) := by unfold rejR; rw [if_neg h]

/-- ReflectInBlade. -/
def rflR (P : Int) (sq : List Int) (xs : List Int) (v : List Int) : List Int × Int := if codeLi P sq xs v = 0 then (plusL P (scaleL P (projL P sq sq.length xs v) 2) v (-1), 0) else ([], codeLi P sq xs v)
theorem rflR_ok {P : Int} {sq xs v : List Int} (h : codeLi P sq xs v = 0) : rflR P sq xs v = (plusL P (scaleL P (projL P sq sq.length xs v) 2) v (-1), 0) := by unfold rflR; rw [if_pos h]
theorem rflR_bad {P : Int} {sq xs v : List Int} (h : ¬ codeLi P sq xs v = 0) : rflR P sq xs v = ([], codeLi P sq xs v) := by unfold rflR; rw [if_neg h]

theorem prR_len (P : Int) (sq xs v : List Int) : (prR P sq xs v).1.length ≤ 1048576 := by
  by_cases h : codeLi P sq xs v = 0
  · obtain ⟨_, _, _, _, h6, _, _⟩ := codeM_spec3 (codeLv_zero (codeLi_zero h).1).1
    rw [prR_ok h]
    show (projL _ _ _ _ _).length ≤ _
    rw [projL_len]; omega
  · rw [prR_bad h]; simp
theorem rejR_len (P : Int) (sq xs v : List Int) : (rejR P sq xs v).1.length ≤ 1048576 := by
  by_cases h : codeLi P sq xs v = 0
  · obtain ⟨hM, hve, _⟩ := codeLv_zero (codeLi_zero h).1
    obtain ⟨_, _, _, _, h6, _, _⟩ := codeM_spec3 hM
    rw [rejR_ok h]
    show (plusL _ _ _ _).length ≤ _
    rw [plusL_len, (isVe_spec3 hve).1]; omega
  · rw [rejR_bad h]; simp
theorem rflR_len (P : Int) (sq xs v : List Int) : (rflR P sq xs v).1.length ≤ 1048576 := by
  by_cases h : codeLi P sq xs v = 0
  · obtain ⟨_, _, _, _, h6, _, _⟩ := codeM_spec3 (codeLv_zero (codeLi_zero h).1).1
    rw [rflR_ok h]
    show (plusL _ _ _ _).length ≤ _
    rw [plusL_len, scaleL_len, projL_len]; omega
  · rw [rflR_bad h]; simp
theorem plusL_last {P : Int} (a b : List Int) : plusL P a b (P - 1) = plusL P a b (-1) := plusL_mod P a b (by rw [Int.sub_eq_add_neg, Int.add_emod, Int.emod_self, Int.zero_add, Int.emod_emod_of_dvd _ (Int.dvd_refl P)])

set_option maxHeartbeats 3200000 in
set_option maxRecDepth 8000 in
theorem RejectFrom_any (P : Int) (A : Option Addr) (n c : Nat) (sq : List Int) (X : Option Addr) (m cx : Nat) (xs : List Int) (Y : Option Addr) (l cy : Nat) (ys : List Int) (w : World) (hn : n ≤ 1048576) (hm : m ≤ 1048576) (hl : l ≤ 1048576) (ha : Rd w A n (ints sq)) (hx : Rd w X m (ints xs)) (hcx : m ≤ cx) (hy : Rd w Y l (ints ys)) (hcy : l ≤ cy) :
    Calls Tryz.prog 44 #[.agg #[.int .i64 P, .slice A n c], .slice X m cx, .slice Y l cy] w fun e w' => ∃ (A' : Option Addr) (k c' : Nat), e = .returned (.tuple #[.slice A' k c', .int .i64 (rejR P sq xs ys).2]) ∧ MkI w w' A' k c' (rejR P sq xs ys).1 := by
  have hB0 : Below w.heap.size w (w.alloc (.cells #[.int .i64 P, .slice A n c] 28)) := (Below.refl _ _).alloc (Nat.le_refl _) _
  have k0 : Blk (w.alloc (.cells #[.int .i64 P, .slice A n c] 28)) w.heap.size 28 #[.int .i64 P, .slice A n c] := Blk.new _ _ _
  obtain ⟨q0, q1⟩ := k0.two
  have hcall := projection_any P A n c sq X m cx xs Y l cy ys (w.alloc (.cells #[.int .i64 P, .slice A n c] 28)) hn hm hl (ha.below hB0) (hx.below hB0) hcx (hy.below hB0) hcy
  by_cases hr0 : codeLi P sq xs ys = 0
  · simp only [prR_ok hr0] at hcall
    have HR0 := Lib.hid hr0
    obtain ⟨hcv0, hsq0⟩ := codeLi_zero hr0
    obtain ⟨hcM, hve, hbl0⟩ := codeLv_zero hcv0
    obtain ⟨hly0, hys0⟩ := isVe_spec3 hve
    have hly : n = l := by rw [← hy.lenI, hly0, ha.lenI]
    subst hly
    have HYS := Lib.hid hys0
    have HSQ0 := Lib.hid hsq0
    clear hve hbl0 hly0 hys0 hcv0 hsq0
    clear hr0
    obtain ⟨HP, hp, hp2, hd1, hd2, hs0, hms⟩ := codeM_spec3 hcM
    have hsl := ha.lenI
    obtain ⟨hx1, hxs0⟩ := hms xs (by simp)
    have hmx : m = pw n := by rw [← hx.lenI, hx1, hsl]
    subst hmx
    have HSL := Lib.hid hsl
    have HS0 := Lib.hid hs0
    have HXS := Lib.hid hxs0
    have hn6 : n ≤ 6 := by omega
    have hn0 : 0 < n := by omega
    clear hsl hms hx1 hs0 hxs0 hd1 hd2 hcM
    have HPN := Lib.hid (projL_nums hp sq n xs ys)
    have HRR : Hid (rejR P sq xs ys = (plusL P ys (projL P sq n xs ys) (-1), 0)) := Lib.hid (by rw [rejR_ok HR0.out, HSL.out])
    have HPL := Lib.hid (projL_len P sq n xs ys)
    rw [HSL.out] at hcall
    obtain ⟨PL, hPL⟩ : ∃ L, L = projL P sq n xs ys := ⟨_, rfl⟩
    rw [← hPL] at hcall HPN HRR HPL
    clear hPL
    go_enter Tryz.func44, Tryz.ntmps44
    go_wp2_with fail
    refine hcall.mono ?_
    rintro e w2 ⟨A2, k2', c2, rfl, hM⟩
    have hk2 : n = k2' := by have := Rd.lenI hM.rd; rw [HPL.out] at this; exact this
    subst hk2
    have hB2 := hB0.trans (hM.b.mono hB0.size)
    have k2 := k0.below hM.b k0.lt
    obtain ⟨q0, q1⟩ := k2.two
    clear hcall k0
    go_wp2_with fail
    refine (field_any _ _ _ _ _).mono ?_
    rintro e w3 ⟨rfl, hb3⟩
    go_wp2_with fail
    refine (plus_any P Y n cy A2 n c2 (-1) ys PL _ hp hp2 (by omega) (Nat.le_refl _) ((hy.below hB2).below hb3) HYS.out (hM.rd.below hb3) HPN.out (by omega) (by omega)).mono ?_
    rintro e w4 ⟨A4, c4, rfl, hM4⟩
    go_wp2
    go_ret2
    exact aRow3 HRR.out (hM4.after (hB2.trans (hb3.mono hB2.size)))
  · have hc : (prR P sq xs ys).1 = [] ∧ (prR P sq xs ys).2 = codeLi P sq xs ys := by rw [prR_bad hr0]; exact ⟨rfl, rfl⟩
    have HRB := Lib.hid (show rejR P sq xs ys = ([], codeLi P sq xs ys) from rejR_bad hr0)
    have b0 : (codeLi P sq xs ys != 0) = true := code_ne hr0
    rw [hc.2] at hcall
    obtain ⟨r, hr⟩ : ∃ r, r = codeLi P sq xs ys := ⟨_, rfl⟩
    rw [← hr] at hcall b0 HRB
    clear hr hr0 hc
    go_enter Tryz.func44, Tryz.ntmps44
    go_wp2_with fail
    refine hcall.mono ?_
    rintro e w2 ⟨A2, k2, c2, rfl, hM⟩
    go_wp2
    go_ret2
    exact noRow3 HRB.out (hB0.trans (hM.b.mono hB0.size))

set_option maxHeartbeats 3200000 in
set_option maxRecDepth 8000 in
theorem ReflectInBlade_any (P : Int) (A : Option Addr) (n c : Nat) (sq : List Int) (X : Option Addr) (m cx : Nat) (xs : List Int) (Y : Option Addr) (l cy : Nat) (ys : List Int) (w : World) (hn : n ≤ 1048576) (hm : m ≤ 1048576) (hl : l ≤ 1048576) (ha : Rd w A n (ints sq)) (hx : Rd w X m (ints xs)) (hcx : m ≤ cx) (hy : Rd w Y l (ints ys)) (hcy : l ≤ cy) :
    Calls Tryz.prog 46 #[.agg #[.int .i64 P, .slice A n c], .slice X m cx, .slice Y l cy] w fun e w' => ∃ (A' : Option Addr) (k c' : Nat), e = .returned (.tuple #[.slice A' k c', .int .i64 (rflR P sq xs ys).2]) ∧ MkI w w' A' k c' (rflR P sq xs ys).1 := by
  have hB0 : Below w.heap.size w (w.alloc (.cells #[.int .i64 P, .slice A n c] 28)) := (Below.refl _ _).alloc (Nat.le_refl _) _
  have k0 : Blk (w.alloc (.cells #[.int .i64 P, .slice A n c] 28)) w.heap.size 28 #[.int .i64 P, .slice A n c] := Blk.new _ _ _
  obtain ⟨q0, q1⟩ := k0.two
  have hcall := projection_any P A n c sq X m cx xs Y l cy ys (w.alloc (.cells #[.int .i64 P, .slice A n c] 28)) hn hm hl (ha.below hB0) (hx.below hB0) hcx (hy.below hB0) hcy
  by_cases hr0 : codeLi P sq xs ys = 0
  · simp only [prR_ok hr0] at hcall
    have HR0 := Lib.hid hr0
    obtain ⟨hcv0, hsq0⟩ := codeLi_zero hr0
    obtain ⟨hcM, hve, hbl0⟩ := codeLv_zero hcv0
    obtain ⟨hly0, hys0⟩ := isVe_spec3 hve
    have hly : n = l := by rw [← hy.lenI, hly0, ha.lenI]
    subst hly
    have HYS := Lib.hid hys0
    have HSQ0 := Lib.hid hsq0
    clear hve hbl0 hly0 hys0 hcv0 hsq0
    clear hr0
    obtain ⟨HP, hp, hp2, hd1, hd2, hs0, hms⟩ := codeM_spec3 hcM
    have hsl := ha.lenI
    obtain ⟨hx1, hxs0⟩ := hms xs (by simp)
    have hmx : m = pw n := by rw [← hx.lenI, hx1, hsl]
    subst hmx
    have HSL := Lib.hid hsl
    have HS0 := Lib.hid hs0
    have HXS := Lib.hid hxs0
    have hn6 : n ≤ 6 := by omega
    have hn0 : 0 < n := by omega
    clear hsl hms hx1 hs0 hxs0 hd1 hd2 hcM
    have HPN := Lib.hid (projL_nums hp sq n xs ys)
    have HRR : Hid (rflR P sq xs ys = (plusL P (scaleL P (projL P sq n xs ys) 2) ys (-1), 0)) := Lib.hid (by rw [rflR_ok HR0.out, HSL.out])
    have HPL := Lib.hid (projL_len P sq n xs ys)
    rw [HSL.out] at hcall
    obtain ⟨PL, hPL⟩ : ∃ L, L = projL P sq n xs ys := ⟨_, rfl⟩
    rw [← hPL] at hcall HPN HRR HPL
    clear hPL
    go_enter Tryz.func46, Tryz.ntmps46
    go_wp2_with fail
    refine hcall.mono ?_
    rintro e w2 ⟨A2, k2', c2, rfl, hM⟩
    have hk2 : n = k2' := by have := Rd.lenI hM.rd; rw [HPL.out] at this; exact this
    subst hk2
    have hB2 := hB0.trans (hM.b.mono hB0.size)
    have k2 := k0.below hM.b k0.lt
    obtain ⟨q0, q1⟩ := k2.two
    clear hcall k0
    have HM := Lib.hid hM
    have HY := Lib.hid (hy.below hB2)
    clear hM
    go_wp2
    refine wp_obs 10 [[], [0], [], [2], [], [2, 3, 4], [], [0, 1, 2, 3, 4, 5, 6], [0, 1, 2, 3, 4, 5, 6, 7], []] [VIs (.agg #[.int .i64 P, .slice A n c]), VIs (.int .i64 (P)), VIs (.agg #[.int .i64 P, .slice A n c]), VIs (.int .i64 (P)), VIs (.slice A2 n c2), VSl w2 n (scaleL P PL 2), VIs (.slice Y n cy), VSl w2 n (plusL P (scaleL P PL 2) ys (-1)), VSl w2 n (plusL P (scaleL P PL 2) ys (-1)), VIs (.int .i64 0)] (fun w' => Blk w' w.heap.size 28 #[.int .i64 P, .slice A n c] ∧ Below w2.heap.size w2 w') (by kernel_rfl) (by kernel_rfl) (fun _ _ h hb => ⟨h.1.below hb h.1.lt, h.2.trans (hb.mono h.2.size)⟩) (⟨k2.drew, (Below.refl _ _).drew⟩) (fun x => ?_)
    refine obs_step (Eq.trans (by simp only [List.getElem?_toArray, List.getElem?_cons_zero]; exact rfl) rfl) rfl (fun w' hS hV K hK => ?_) ?_
    · obtain ⟨q0, q1⟩ := hS.1.two
      go_simp
      exact hK.out _ _ _ rfl rfl rfl (Below.refl _ _)
    simp only [List.setIfInBounds_toArray, List.set_cons_zero, List.set_cons_succ]
    refine obs_step (Eq.trans (by simp only [List.getElem?_toArray, List.getElem?_cons_succ, List.getElem?_cons_zero]; exact rfl) rfl) rfl (fun w' hS hV K hK => ?_) ?_
    · have e0 : x 0 = (.agg #[.int .i64 P, .slice A n c]) := hV 0 (by decide)
      obtain ⟨q0, q1⟩ := hS.1.two
      go_simp
      refine (field_any _ _ _ _ _).mono ?_
      rintro e v1 ⟨rfl, hb⟩
      exact hK.out _ _ _ rfl rfl rfl hb
    simp only [List.setIfInBounds_toArray, List.set_cons_zero, List.set_cons_succ]
    refine obs_step (Eq.trans (by simp only [List.getElem?_toArray, List.getElem?_cons_succ, List.getElem?_cons_zero]; exact rfl) rfl) rfl (fun w' hS hV K hK => ?_) ?_
    · obtain ⟨q0, q1⟩ := hS.1.two
      go_simp
      exact hK.out _ _ _ rfl rfl rfl (Below.refl _ _)
    simp only [List.setIfInBounds_toArray, List.set_cons_zero, List.set_cons_succ]
    refine obs_step (Eq.trans (by simp only [List.getElem?_toArray, List.getElem?_cons_succ, List.getElem?_cons_zero]; exact rfl) rfl) rfl (fun w' hS hV K hK => ?_) ?_
    · have e2 : x 2 = (.agg #[.int .i64 P, .slice A n c]) := hV 2 (by decide)
      obtain ⟨q0, q1⟩ := hS.1.two
      go_simp
      refine (field_any _ _ _ _ _).mono ?_
      rintro e v1 ⟨rfl, hb⟩
      exact hK.out _ _ _ rfl rfl rfl hb
    simp only [List.setIfInBounds_toArray, List.set_cons_zero, List.set_cons_succ]
    refine obs_step (Eq.trans (by simp only [List.getElem?_toArray, List.getElem?_cons_succ, List.getElem?_cons_zero]; exact rfl) rfl) rfl (fun w' hS hV K hK => ?_) ?_
    · obtain ⟨q0, q1⟩ := hS.1.two
      go_simp
      exact hK.out _ _ _ rfl rfl rfl (Below.refl _ _)
    simp only [List.setIfInBounds_toArray, List.set_cons_zero, List.set_cons_succ]
    refine obs_step (Eq.trans (by simp only [List.getElem?_toArray, List.getElem?_cons_succ, List.getElem?_cons_zero]; exact rfl) rfl) rfl (fun w' hS hV K hK => ?_) ?_
    · have e2 : x 2 = (.agg #[.int .i64 P, .slice A n c]) := hV 2 (by decide)
      have e3 : x 3 = (.int .i64 (P)) := hV 3 (by decide)
      have e4 : x 4 = (.slice A2 n c2) := hV 4 (by decide)
      obtain ⟨q0, q1⟩ := hS.1.two
      go_simp
      refine (scaled_any P A2 n c2 2 PL _ hp hp2 (by omega) (HM.out.rd.below hS.2) HPN.out (by omega) (by omega)).mono ?_
      rintro e v1 ⟨A2, c2, rfl, hM⟩
      exact hK.out _ _ _ rfl rfl ⟨_, _, rfl, hM.after hS.2⟩ hM.b
    simp only [List.setIfInBounds_toArray, List.set_cons_zero, List.set_cons_succ]
    refine obs_step (Eq.trans (by simp only [List.getElem?_toArray, List.getElem?_cons_succ, List.getElem?_cons_zero]; exact rfl) rfl) rfl (fun w' hS hV K hK => ?_) ?_
    · obtain ⟨q0, q1⟩ := hS.1.two
      go_simp
      exact hK.out _ _ _ rfl rfl rfl (Below.refl _ _)
    simp only [List.setIfInBounds_toArray, List.set_cons_zero, List.set_cons_succ]
    refine obs_step (Eq.trans (by simp only [List.getElem?_toArray, List.getElem?_cons_succ, List.getElem?_cons_zero]; exact rfl) rfl) rfl (fun w' hS hV K hK => ?_) ?_
    · have e0 : x 0 = (.agg #[.int .i64 P, .slice A n c]) := hV 0 (by decide)
      have e1 : x 1 = (.int .i64 (P)) := hV 1 (by decide)
      have e2 : x 2 = (.agg #[.int .i64 P, .slice A n c]) := hV 2 (by decide)
      have e3 : x 3 = (.int .i64 (P)) := hV 3 (by decide)
      have e4 : x 4 = (.slice A2 n c2) := hV 4 (by decide)
      obtain ⟨A5, c5, e5, h5⟩ := hV 5 (by decide)
      have e6 : x 6 = (.slice Y n cy) := hV 6 (by decide)
      obtain ⟨q0, q1⟩ := hS.1.two
      go_simp
      refine (plus_any P _ n _ Y n cy (-1) (scaleL P PL 2) ys _ hp hp2 (by omega) (Nat.le_refl _) h5.rd (scaleL_nums (by omega) _ _) (HY.out.below hS.2) HYS.out (by omega) (by omega)).mono ?_
      rintro e v1 ⟨A2, c2, rfl, hM⟩
      exact hK.out _ _ _ rfl rfl ⟨_, _, rfl, hM.after hS.2⟩ hM.b
    simp only [List.setIfInBounds_toArray, List.set_cons_zero, List.set_cons_succ]
    refine obs_step (Eq.trans (by simp only [List.getElem?_toArray, List.getElem?_cons_succ, List.getElem?_cons_zero]; exact rfl) rfl) rfl (fun w' hS hV K hK => ?_) ?_
    · have e0 : x 0 = (.agg #[.int .i64 P, .slice A n c]) := hV 0 (by decide)
      have e1 : x 1 = (.int .i64 (P)) := hV 1 (by decide)
      have e2 : x 2 = (.agg #[.int .i64 P, .slice A n c]) := hV 2 (by decide)
      have e3 : x 3 = (.int .i64 (P)) := hV 3 (by decide)
      have e4 : x 4 = (.slice A2 n c2) := hV 4 (by decide)
      obtain ⟨A5, c5, e5, h5⟩ := hV 5 (by decide)
      have e6 : x 6 = (.slice Y n cy) := hV 6 (by decide)
      obtain ⟨A7, c7, e7, h7⟩ := hV 7 (by decide)
      obtain ⟨q0, q1⟩ := hS.1.two
      go_simp
      exact hK.out _ _ _ rfl rfl ⟨_, _, rfl, h7⟩ (Below.refl _ _)
    simp only [List.setIfInBounds_toArray, List.set_cons_zero, List.set_cons_succ]
    refine obs_step (Eq.trans (by simp only [List.getElem?_toArray, List.getElem?_cons_succ, List.getElem?_cons_zero]; exact rfl) rfl) rfl (fun w' hS hV K hK => ?_) ?_
    · obtain ⟨q0, q1⟩ := hS.1.two
      go_simp
      exact hK.out _ _ _ rfl rfl rfl (Below.refl _ _)
    simp only [List.setIfInBounds_toArray, List.set_cons_zero, List.set_cons_succ]
    refine fun w' hS hV => ?_
    have e0 : x 0 = (.agg #[.int .i64 P, .slice A n c]) := hV 0 (by decide)
    have e1 : x 1 = (.int .i64 (P)) := hV 1 (by decide)
    have e2 : x 2 = (.agg #[.int .i64 P, .slice A n c]) := hV 2 (by decide)
    have e3 : x 3 = (.int .i64 (P)) := hV 3 (by decide)
    have e4 : x 4 = (.slice A2 n c2) := hV 4 (by decide)
    obtain ⟨A5, c5, e5, h5⟩ := hV 5 (by decide)
    have e6 : x 6 = (.slice Y n cy) := hV 6 (by decide)
    obtain ⟨A7, c7, e7, h7⟩ := hV 7 (by decide)
    obtain ⟨A8, c8, e8, h8⟩ := hV 8 (by decide)
    have e9 : x 9 = (.int .i64 0) := hV 9 (by decide)
    simp only [e0, e1, e2, e3, e4, e5, e6, e7, e8, e9]
    clear e0 e1 e2 e3 e4 e5 e6 e7 e8 e9
    refine wpAny_done (by kernel_rfl) ?_ _
    go_wp2
    go_ret2
    exact aRow3 HRR.out (h8.after hB2)
  · have hc : (prR P sq xs ys).1 = [] ∧ (prR P sq xs ys).2 = codeLi P sq xs ys := by rw [prR_bad hr0]; exact ⟨rfl, rfl⟩
    have HRB := Lib.hid (show rflR P sq xs ys = ([], codeLi P sq xs ys) from rflR_bad hr0)
    have b0 : (codeLi P sq xs ys != 0) = true := code_ne hr0
    rw [hc.2] at hcall
    obtain ⟨r, hr⟩ : ∃ r, r = codeLi P sq xs ys := ⟨_, rfl⟩
    rw [← hr] at hcall b0 HRB
    clear hr hr0 hc
    go_enter Tryz.func46, Tryz.ntmps46
    go_wp2_with fail
    refine hcall.mono ?_
    rintro e w2 ⟨A2, k2, c2, rfl, hM⟩
    go_wp2
    go_ret2
    exact noRow3 HRB.out (hB0.trans (hM.b.mono hB0.size))

set_option maxHeartbeats 3200000 in
set_option maxRecDepth 8000 in
theorem specRejectFrom_any (P : Int) (A : Option Addr) (n c : Nat) (sq : List Int) (X : Option Addr) (m cx : Nat) (xs : List Int) (Y : Option Addr) (l cy : Nat) (ys : List Int) (w : World) (hn : n ≤ 1048576) (hm : m ≤ 1048576) (hl : l ≤ 1048576) (ha : Rd w A n (ints sq)) (hx : Rd w X m (ints xs)) (hcx : m ≤ cx) (hy : Rd w Y l (ints ys)) (hcy : l ≤ cy) :
    Calls Tryz.prog 43 #[.agg #[.int .i64 P, .slice A n c], .slice X m cx, .slice Y l cy] w fun e w' => ∃ (A' : Option Addr) (k c' : Nat), e = .returned (.tuple #[.slice A' k c', .int .i64 (rejR P sq xs ys).2]) ∧ MkI w w' A' k c' (rejR P sq xs ys).1 := by
  have hB0 : Below w.heap.size w (w.alloc (.cells #[.int .i64 P, .slice A n c] 28)) := (Below.refl _ _).alloc (Nat.le_refl _) _
  have k0 : Blk (w.alloc (.cells #[.int .i64 P, .slice A n c] 28)) w.heap.size 28 #[.int .i64 P, .slice A n c] := Blk.new _ _ _
  have hB1 := hB0
  have k1 := k0
  have hreg := l06Invertible_any P A n c sq X m cx xs Y l cy ys (w.alloc (.cells #[.int .i64 P, .slice A n c] 28)) hn hm hl (ha.below hB1) (hx.below hB1) hcx (hy.below hB1) hcy
  by_cases hr0 : codeLi P sq xs ys = 0
  · skip
    obtain ⟨hcv0, hsq0⟩ := codeLi_zero hr0
    obtain ⟨hcM, hve, hbl0⟩ := codeLv_zero hcv0
    obtain ⟨hly0, hys0⟩ := isVe_spec3 hve
    have hly : n = l := by rw [← hy.lenI, hly0, ha.lenI]
    subst hly
    have HYS := Lib.hid hys0
    have HSQ0 := Lib.hid hsq0
    clear hve hbl0 hly0 hys0 hcv0 hsq0
    rw [hr0] at hreg
    have HR0 := Lib.hid hr0
    clear hr0
    obtain ⟨HP, hp, hp2, hd1, hd2, hs0, hms⟩ := codeM_spec3 hcM
    have hsl := ha.lenI
    obtain ⟨hx1, hxs0⟩ := hms xs (by simp)
    have hmx : m = pw n := by rw [← hx.lenI, hx1, hsl]
    subst hmx
    have HSL := Lib.hid hsl
    have HS0 := Lib.hid hs0
    have HXS := Lib.hid hxs0
    have hn6 : n ≤ 6 := by omega
    have hn0 : 0 < n := by omega
    clear hsl hms hx1 hs0 hxs0 hd1 hd2 hcM
    go_enter Tryz.func43, Tryz.ntmps43
    go_wp2_with fail
    refine hreg.mono ?_
    rintro e w2 ⟨rfl, hb2⟩
    have hB2 := hB1.trans (hb2.mono hB1.size)
    have k2 := k1.below hb2 k1.lt
    obtain ⟨q0, q1⟩ := k2.two
    clear k0 hB0 k1 hB1 hb2
    have HPN := Lib.hid (projL_nums hp sq n xs ys)
    have HRR := Lib.hid (show rejR P sq xs ys = (plusL P ys (projL P sq n xs ys) (-1), 0) by rw [rejR_ok HR0.out, HSL.out])
    have HPJ := Lib.hid fun (w' : World) (h : Below w2.heap.size w2 w') => l06Project_any P A n c sq X cx xs Y cy ys w' HP hn6 ((ha.below hB2).below h) HS0.out ((hx.below hB2).below h) HXS.out ((hy.below hB2).below h) HYS.out HSQ0.out
    have HY := Lib.hid (hy.below hB2)
    have W1 := i64_fit (P - 1) (by omega) (by omega)
    obtain ⟨PL, hPL⟩ : ∃ L, L = projL P sq n xs ys := ⟨_, rfl⟩
    rw [← hPL] at HPJ HPN HRR
    clear hPL
    go_wp2
    refine wp_obs 13 [[], [0], [], [], [], [], [3, 4, 5], [], [7], [7, 8], [0, 1, 2, 3, 4, 5, 6, 7, 8, 9], [0, 1, 2, 3, 4, 5, 6, 7, 8, 9, 10], []] [VIs (.pointer (some ⟨w.heap.size, 0, none⟩)), VIs (.int .i64 (P)), VIs (.slice Y n cy), VIs (.agg #[.int .i64 P, .slice A n c]), VIs (.slice X (pw n) cx), VIs (.slice Y n cy), VSl w2 n PL, VIs (.pointer (some ⟨w.heap.size, 0, none⟩)), VIs (.int .i64 (P)), VIs (.int .i64 (P - 1)), VSl w2 n (plusL P ys PL (P - 1)), VSl w2 n (plusL P ys PL (P - 1)), VIs (.int .i64 0)] (fun w' => Blk w' w.heap.size 28 #[.int .i64 P, .slice A n c] ∧ Below w2.heap.size w2 w') (by kernel_rfl) (by kernel_rfl) (fun _ _ h hb => ⟨h.1.below hb h.1.lt, h.2.trans (hb.mono h.2.size)⟩) (⟨k2.drew, (Below.refl _ _).drew⟩) (fun x => ?_)
    refine obs_step (Eq.trans (by simp only [List.getElem?_toArray, List.getElem?_cons_zero]; exact rfl) rfl) rfl (fun w' hS hV K hK => ?_) ?_
    · obtain ⟨q0, q1⟩ := hS.1.two
      go_simp
      exact hK.out _ _ _ rfl rfl rfl (Below.refl _ _)
    simp only [List.setIfInBounds_toArray, List.set_cons_zero, List.set_cons_succ]
    refine obs_step (Eq.trans (by simp only [List.getElem?_toArray, List.getElem?_cons_succ, List.getElem?_cons_zero]; exact rfl) rfl) rfl (fun w' hS hV K hK => ?_) ?_
    · have e0 : x 0 = (.pointer (some ⟨w.heap.size, 0, none⟩)) := hV 0 (by decide)
      obtain ⟨q0, q1⟩ := hS.1.two
      go_simp
      exact hK.out _ _ _ rfl rfl rfl (Below.refl _ _)
    simp only [List.setIfInBounds_toArray, List.set_cons_zero, List.set_cons_succ]
    refine obs_step (Eq.trans (by simp only [List.getElem?_toArray, List.getElem?_cons_succ, List.getElem?_cons_zero]; exact rfl) rfl) rfl (fun w' hS hV K hK => ?_) ?_
    · obtain ⟨q0, q1⟩ := hS.1.two
      go_simp
      exact hK.out _ _ _ rfl rfl rfl (Below.refl _ _)
    simp only [List.setIfInBounds_toArray, List.set_cons_zero, List.set_cons_succ]
    refine obs_step (Eq.trans (by simp only [List.getElem?_toArray, List.getElem?_cons_succ, List.getElem?_cons_zero]; exact rfl) rfl) rfl (fun w' hS hV K hK => ?_) ?_
    · obtain ⟨q0, q1⟩ := hS.1.two
      go_simp
      exact hK.out _ _ _ rfl rfl rfl (Below.refl _ _)
    simp only [List.setIfInBounds_toArray, List.set_cons_zero, List.set_cons_succ]
    refine obs_step (Eq.trans (by simp only [List.getElem?_toArray, List.getElem?_cons_succ, List.getElem?_cons_zero]; exact rfl) rfl) rfl (fun w' hS hV K hK => ?_) ?_
    · obtain ⟨q0, q1⟩ := hS.1.two
      go_simp
      exact hK.out _ _ _ rfl rfl rfl (Below.refl _ _)
    simp only [List.setIfInBounds_toArray, List.set_cons_zero, List.set_cons_succ]
    refine obs_step (Eq.trans (by simp only [List.getElem?_toArray, List.getElem?_cons_succ, List.getElem?_cons_zero]; exact rfl) rfl) rfl (fun w' hS hV K hK => ?_) ?_
    · obtain ⟨q0, q1⟩ := hS.1.two
      go_simp
      exact hK.out _ _ _ rfl rfl rfl (Below.refl _ _)
    simp only [List.setIfInBounds_toArray, List.set_cons_zero, List.set_cons_succ]
    refine obs_step (Eq.trans (by simp only [List.getElem?_toArray, List.getElem?_cons_succ, List.getElem?_cons_zero]; exact rfl) rfl) rfl (fun w' hS hV K hK => ?_) ?_
    · have e3 : x 3 = (.agg #[.int .i64 P, .slice A n c]) := hV 3 (by decide)
      have e4 : x 4 = (.slice X (pw n) cx) := hV 4 (by decide)
      have e5 : x 5 = (.slice Y n cy) := hV 5 (by decide)
      obtain ⟨q0, q1⟩ := hS.1.two
      go_simp
      refine (HPJ.out _ hS.2).mono ?_
      rintro e v1 ⟨A2, c2, rfl, hM⟩
      exact hK.out _ _ _ rfl rfl ⟨_, _, rfl, hM.after hS.2⟩ hM.b
    simp only [List.setIfInBounds_toArray, List.set_cons_zero, List.set_cons_succ]
    refine obs_step (Eq.trans (by simp only [List.getElem?_toArray, List.getElem?_cons_succ, List.getElem?_cons_zero]; exact rfl) rfl) rfl (fun w' hS hV K hK => ?_) ?_
    · obtain ⟨q0, q1⟩ := hS.1.two
      go_simp
      exact hK.out _ _ _ rfl rfl rfl (Below.refl _ _)
    simp only [List.setIfInBounds_toArray, List.set_cons_zero, List.set_cons_succ]
    refine obs_step (Eq.trans (by simp only [List.getElem?_toArray, List.getElem?_cons_succ, List.getElem?_cons_zero]; exact rfl) rfl) rfl (fun w' hS hV K hK => ?_) ?_
    · have e7 : x 7 = (.pointer (some ⟨w.heap.size, 0, none⟩)) := hV 7 (by decide)
      obtain ⟨q0, q1⟩ := hS.1.two
      go_simp
      exact hK.out _ _ _ rfl rfl rfl (Below.refl _ _)
    simp only [List.setIfInBounds_toArray, List.set_cons_zero, List.set_cons_succ]
    refine obs_step (Eq.trans (by simp only [List.getElem?_toArray, List.getElem?_cons_succ, List.getElem?_cons_zero]; exact rfl) rfl) rfl (fun w' hS hV K hK => ?_) ?_
    · have e7 : x 7 = (.pointer (some ⟨w.heap.size, 0, none⟩)) := hV 7 (by decide)
      have e8 : x 8 = (.int .i64 (P)) := hV 8 (by decide)
      obtain ⟨q0, q1⟩ := hS.1.two
      go_simp
      exact hK.out _ _ _ rfl rfl rfl (Below.refl _ _)
    simp only [List.setIfInBounds_toArray, List.set_cons_zero, List.set_cons_succ]
    refine obs_step (Eq.trans (by simp only [List.getElem?_toArray, List.getElem?_cons_succ, List.getElem?_cons_zero]; exact rfl) rfl) rfl (fun w' hS hV K hK => ?_) ?_
    · have e0 : x 0 = (.pointer (some ⟨w.heap.size, 0, none⟩)) := hV 0 (by decide)
      have e1 : x 1 = (.int .i64 (P)) := hV 1 (by decide)
      have e2 : x 2 = (.slice Y n cy) := hV 2 (by decide)
      have e3 : x 3 = (.agg #[.int .i64 P, .slice A n c]) := hV 3 (by decide)
      have e4 : x 4 = (.slice X (pw n) cx) := hV 4 (by decide)
      have e5 : x 5 = (.slice Y n cy) := hV 5 (by decide)
      obtain ⟨A6, c6, e6, h6⟩ := hV 6 (by decide)
      have e7 : x 7 = (.pointer (some ⟨w.heap.size, 0, none⟩)) := hV 7 (by decide)
      have e8 : x 8 = (.int .i64 (P)) := hV 8 (by decide)
      have e9 : x 9 = (.int .i64 (P - 1)) := hV 9 (by decide)
      obtain ⟨q0, q1⟩ := hS.1.two
      go_simp
      refine (l02Plus_any P Y n cy _ n _ (P - 1) ys PL _ hp hp2 (by omega) (Nat.le_refl _) (HY.out.below hS.2) HYS.out h6.rd HPN.out (by omega) (by omega)).mono ?_
      rintro e v1 ⟨A2, c2, rfl, hM⟩
      exact hK.out _ _ _ rfl rfl ⟨_, _, rfl, hM.after hS.2⟩ hM.b
    simp only [List.setIfInBounds_toArray, List.set_cons_zero, List.set_cons_succ]
    refine obs_step (Eq.trans (by simp only [List.getElem?_toArray, List.getElem?_cons_succ, List.getElem?_cons_zero]; exact rfl) rfl) rfl (fun w' hS hV K hK => ?_) ?_
    · have e0 : x 0 = (.pointer (some ⟨w.heap.size, 0, none⟩)) := hV 0 (by decide)
      have e1 : x 1 = (.int .i64 (P)) := hV 1 (by decide)
      have e2 : x 2 = (.slice Y n cy) := hV 2 (by decide)
      have e3 : x 3 = (.agg #[.int .i64 P, .slice A n c]) := hV 3 (by decide)
      have e4 : x 4 = (.slice X (pw n) cx) := hV 4 (by decide)
      have e5 : x 5 = (.slice Y n cy) := hV 5 (by decide)
      obtain ⟨A6, c6, e6, h6⟩ := hV 6 (by decide)
      have e7 : x 7 = (.pointer (some ⟨w.heap.size, 0, none⟩)) := hV 7 (by decide)
      have e8 : x 8 = (.int .i64 (P)) := hV 8 (by decide)
      have e9 : x 9 = (.int .i64 (P - 1)) := hV 9 (by decide)
      obtain ⟨A10, c10, e10, h10⟩ := hV 10 (by decide)
      obtain ⟨q0, q1⟩ := hS.1.two
      go_simp
      exact hK.out _ _ _ rfl rfl ⟨_, _, rfl, h10⟩ (Below.refl _ _)
    simp only [List.setIfInBounds_toArray, List.set_cons_zero, List.set_cons_succ]
    refine obs_step (Eq.trans (by simp only [List.getElem?_toArray, List.getElem?_cons_succ, List.getElem?_cons_zero]; exact rfl) rfl) rfl (fun w' hS hV K hK => ?_) ?_
    · obtain ⟨q0, q1⟩ := hS.1.two
      go_simp
      exact hK.out _ _ _ rfl rfl rfl (Below.refl _ _)
    simp only [List.setIfInBounds_toArray, List.set_cons_zero, List.set_cons_succ]
    refine fun w' hS hV => ?_
    have e0 : x 0 = (.pointer (some ⟨w.heap.size, 0, none⟩)) := hV 0 (by decide)
    have e1 : x 1 = (.int .i64 (P)) := hV 1 (by decide)
    have e2 : x 2 = (.slice Y n cy) := hV 2 (by decide)
    have e3 : x 3 = (.agg #[.int .i64 P, .slice A n c]) := hV 3 (by decide)
    have e4 : x 4 = (.slice X (pw n) cx) := hV 4 (by decide)
    have e5 : x 5 = (.slice Y n cy) := hV 5 (by decide)
    obtain ⟨A6, c6, e6, h6⟩ := hV 6 (by decide)
    have e7 : x 7 = (.pointer (some ⟨w.heap.size, 0, none⟩)) := hV 7 (by decide)
    have e8 : x 8 = (.int .i64 (P)) := hV 8 (by decide)
    have e9 : x 9 = (.int .i64 (P - 1)) := hV 9 (by decide)
    obtain ⟨A10, c10, e10, h10⟩ := hV 10 (by decide)
    obtain ⟨A11, c11, e11, h11⟩ := hV 11 (by decide)
    have e12 : x 12 = (.int .i64 0) := hV 12 (by decide)
    simp only [e0, e1, e2, e3, e4, e5, e6, e7, e8, e9, e10, e11, e12]
    clear e0 e1 e2 e3 e4 e5 e6 e7 e8 e9 e10 e11 e12
    refine wpAny_done (by kernel_rfl) ?_ _
    go_wp2
    go_ret2
    exact aRow3 HRR.out (by rw [← plusL_last]; exact h11.after hB2)
  · obtain ⟨r, hr⟩ : ∃ r, r = codeLi P sq xs ys := ⟨_, rfl⟩
    have HR := Lib.hid hr
    have HR0 := Lib.hid hr0
    have b0 : (r != 0) = true := code_ne (by rw [hr]; exact hr0)
    rw [← hr] at hreg
    clear hr hr0
    go_enter Tryz.func43, Tryz.ntmps43
    go_wp2_with fail
    refine hreg.mono ?_
    rintro e w2 ⟨rfl, hb2⟩
    have hB2 := hB1.trans (hb2.mono hB1.size)
    have k2 := k1.below hb2 k1.lt
    obtain ⟨q0, q1⟩ := k2.two
    clear k0 hB0 k1 hB1 hb2
    go_wp2
    go_ret2
    exact noRow3 (by rw [rejR_bad HR0.out, HR.out]) hB2

set_option maxHeartbeats 3200000 in
set_option maxRecDepth 8000 in
theorem specReflectInBlade_any (P : Int) (A : Option Addr) (n c : Nat) (sq : List Int) (X : Option Addr) (m cx : Nat) (xs : List Int) (Y : Option Addr) (l cy : Nat) (ys : List Int) (w : World) (hn : n ≤ 1048576) (hm : m ≤ 1048576) (hl : l ≤ 1048576) (ha : Rd w A n (ints sq)) (hx : Rd w X m (ints xs)) (hcx : m ≤ cx) (hy : Rd w Y l (ints ys)) (hcy : l ≤ cy) :
    Calls Tryz.prog 45 #[.agg #[.int .i64 P, .slice A n c], .slice X m cx, .slice Y l cy] w fun e w' => ∃ (A' : Option Addr) (k c' : Nat), e = .returned (.tuple #[.slice A' k c', .int .i64 (rflR P sq xs ys).2]) ∧ MkI w w' A' k c' (rflR P sq xs ys).1 := by
  have hB0 : Below w.heap.size w (w.alloc (.cells #[.int .i64 P, .slice A n c] 28)) := (Below.refl _ _).alloc (Nat.le_refl _) _
  have k0 : Blk (w.alloc (.cells #[.int .i64 P, .slice A n c] 28)) w.heap.size 28 #[.int .i64 P, .slice A n c] := Blk.new _ _ _
  have hB1 := hB0
  have k1 := k0
  have hreg := l06Invertible_any P A n c sq X m cx xs Y l cy ys (w.alloc (.cells #[.int .i64 P, .slice A n c] 28)) hn hm hl (ha.below hB1) (hx.below hB1) hcx (hy.below hB1) hcy
  by_cases hr0 : codeLi P sq xs ys = 0
  · skip
    obtain ⟨hcv0, hsq0⟩ := codeLi_zero hr0
    obtain ⟨hcM, hve, hbl0⟩ := codeLv_zero hcv0
    obtain ⟨hly0, hys0⟩ := isVe_spec3 hve
    have hly : n = l := by rw [← hy.lenI, hly0, ha.lenI]
    subst hly
    have HYS := Lib.hid hys0
    have HSQ0 := Lib.hid hsq0
    clear hve hbl0 hly0 hys0 hcv0 hsq0
    rw [hr0] at hreg
    have HR0 := Lib.hid hr0
    clear hr0
    obtain ⟨HP, hp, hp2, hd1, hd2, hs0, hms⟩ := codeM_spec3 hcM
    have hsl := ha.lenI
    obtain ⟨hx1, hxs0⟩ := hms xs (by simp)
    have hmx : m = pw n := by rw [← hx.lenI, hx1, hsl]
    subst hmx
    have HSL := Lib.hid hsl
    have HS0 := Lib.hid hs0
    have HXS := Lib.hid hxs0
    have hn6 : n ≤ 6 := by omega
    have hn0 : 0 < n := by omega
    clear hsl hms hx1 hs0 hxs0 hd1 hd2 hcM
    go_enter Tryz.func45, Tryz.ntmps45
    go_wp2_with fail
    refine hreg.mono ?_
    rintro e w2 ⟨rfl, hb2⟩
    have hB2 := hB1.trans (hb2.mono hB1.size)
    have k2 := k1.below hb2 k1.lt
    obtain ⟨q0, q1⟩ := k2.two
    clear k0 hB0 k1 hB1 hb2
    have HPN := Lib.hid (projL_nums hp sq n xs ys)
    have HRR := Lib.hid (show rflR P sq xs ys = (plusL P (scaleL P (projL P sq n xs ys) 2) ys (-1), 0) by rw [rflR_ok HR0.out, HSL.out])
    have HPJ := Lib.hid fun (w' : World) (h : Below w2.heap.size w2 w') => l06Project_any P A n c sq X cx xs Y cy ys w' HP hn6 ((ha.below hB2).below h) HS0.out ((hx.below hB2).below h) HXS.out ((hy.below hB2).below h) HYS.out HSQ0.out
    have HY := Lib.hid (hy.below hB2)
    have W1 := i64_fit (P - 1) (by omega) (by omega)
    obtain ⟨PL, hPL⟩ : ∃ L, L = projL P sq n xs ys := ⟨_, rfl⟩
    rw [← hPL] at HPJ HPN HRR
    clear hPL
    go_wp2
    refine wp_obs 16 [[], [0], [], [2], [], [], [], [4, 5, 6], [2, 3, 4, 5, 6, 7], [], [], [10], [10, 11], [0, 1, 2, 3, 4, 5, 6, 7, 8, 9, 10, 11, 12], [0, 1, 2, 3, 4, 5, 6, 7, 8, 9, 10, 11, 12, 13], []] [VIs (.pointer (some ⟨w.heap.size, 0, none⟩)), VIs (.int .i64 (P)), VIs (.pointer (some ⟨w.heap.size, 0, none⟩)), VIs (.int .i64 (P)), VIs (.agg #[.int .i64 P, .slice A n c]), VIs (.slice X (pw n) cx), VIs (.slice Y n cy), VSl w2 n PL, VSl w2 n (scaleL P PL 2), VIs (.slice Y n cy), VIs (.pointer (some ⟨w.heap.size, 0, none⟩)), VIs (.int .i64 (P)), VIs (.int .i64 (P - 1)), VSl w2 n (plusL P (scaleL P PL 2) ys (P - 1)), VSl w2 n (plusL P (scaleL P PL 2) ys (P - 1)), VIs (.int .i64 0)] (fun w' => Blk w' w.heap.size 28 #[.int .i64 P, .slice A n c] ∧ Below w2.heap.size w2 w') (by kernel_rfl) (by kernel_rfl) (fun _ _ h hb => ⟨h.1.below hb h.1.lt, h.2.trans (hb.mono h.2.size)⟩) (⟨k2.drew, (Below.refl _ _).drew⟩) (fun x => ?_)
    refine obs_step (Eq.trans (by simp only [List.getElem?_toArray, List.getElem?_cons_zero]; exact rfl) rfl) rfl (fun w' hS hV K hK => ?_) ?_
    · obtain ⟨q0, q1⟩ := hS.1.two
      go_simp
      exact hK.out _ _ _ rfl rfl rfl (Below.refl _ _)
    simp only [List.setIfInBounds_toArray, List.set_cons_zero, List.set_cons_succ]
    refine obs_step (Eq.trans (by simp only [List.getElem?_toArray, List.getElem?_cons_succ, List.getElem?_cons_zero]; exact rfl) rfl) rfl (fun w' hS hV K hK => ?_) ?_
    · have e0 : x 0 = (.pointer (some ⟨w.heap.size, 0, none⟩)) := hV 0 (by decide)
      obtain ⟨q0, q1⟩ := hS.1.two
      go_simp
      exact hK.out _ _ _ rfl rfl rfl (Below.refl _ _)
    simp only [List.setIfInBounds_toArray, List.set_cons_zero, List.set_cons_succ]
    refine obs_step (Eq.trans (by simp only [List.getElem?_toArray, List.getElem?_cons_succ, List.getElem?_cons_zero]; exact rfl) rfl) rfl (fun w' hS hV K hK => ?_) ?_
    · obtain ⟨q0, q1⟩ := hS.1.two
      go_simp
      exact hK.out _ _ _ rfl rfl rfl (Below.refl _ _)
    simp only [List.setIfInBounds_toArray, List.set_cons_zero, List.set_cons_succ]
    refine obs_step (Eq.trans (by simp only [List.getElem?_toArray, List.getElem?_cons_succ, List.getElem?_cons_zero]; exact rfl) rfl) rfl (fun w' hS hV K hK => ?_) ?_
    · have e2 : x 2 = (.pointer (some ⟨w.heap.size, 0, none⟩)) := hV 2 (by decide)
      obtain ⟨q0, q1⟩ := hS.1.two
      go_simp
      exact hK.out _ _ _ rfl rfl rfl (Below.refl _ _)
    simp only [List.setIfInBounds_toArray, List.set_cons_zero, List.set_cons_succ]
    refine obs_step (Eq.trans (by simp only [List.getElem?_toArray, List.getElem?_cons_succ, List.getElem?_cons_zero]; exact rfl) rfl) rfl (fun w' hS hV K hK => ?_) ?_
    · obtain ⟨q0, q1⟩ := hS.1.two
      go_simp
      exact hK.out _ _ _ rfl rfl rfl (Below.refl _ _)
    simp only [List.setIfInBounds_toArray, List.set_cons_zero, List.set_cons_succ]
    refine obs_step (Eq.trans (by simp only [List.getElem?_toArray, List.getElem?_cons_succ, List.getElem?_cons_zero]; exact rfl) rfl) rfl (fun w' hS hV K hK => ?_) ?_
    · obtain ⟨q0, q1⟩ := hS.1.two
      go_simp
      exact hK.out _ _ _ rfl rfl rfl (Below.refl _ _)
    simp only [List.setIfInBounds_toArray, List.set_cons_zero, List.set_cons_succ]
    refine obs_step (Eq.trans (by simp only [List.getElem?_toArray, List.getElem?_cons_succ, List.getElem?_cons_zero]; exact rfl) rfl) rfl (fun w' hS hV K hK => ?_) ?_
    · obtain ⟨q0, q1⟩ := hS.1.two
      go_simp
      exact hK.out _ _ _ rfl rfl rfl (Below.refl _ _)
    simp only [List.setIfInBounds_toArray, List.set_cons_zero, List.set_cons_succ]
    refine obs_step (Eq.trans (by simp only [List.getElem?_toArray, List.getElem?_cons_succ, List.getElem?_cons_zero]; exact rfl) rfl) rfl (fun w' hS hV K hK => ?_) ?_
    · have e4 : x 4 = (.agg #[.int .i64 P, .slice A n c]) := hV 4 (by decide)
      have e5 : x 5 = (.slice X (pw n) cx) := hV 5 (by decide)
      have e6 : x 6 = (.slice Y n cy) := hV 6 (by decide)
      obtain ⟨q0, q1⟩ := hS.1.two
      go_simp
      refine (HPJ.out _ hS.2).mono ?_
      rintro e v1 ⟨A2, c2, rfl, hM⟩
      exact hK.out _ _ _ rfl rfl ⟨_, _, rfl, hM.after hS.2⟩ hM.b
    simp only [List.setIfInBounds_toArray, List.set_cons_zero, List.set_cons_succ]
    refine obs_step (Eq.trans (by simp only [List.getElem?_toArray, List.getElem?_cons_succ, List.getElem?_cons_zero]; exact rfl) rfl) rfl (fun w' hS hV K hK => ?_) ?_
    · have e2 : x 2 = (.pointer (some ⟨w.heap.size, 0, none⟩)) := hV 2 (by decide)
      have e3 : x 3 = (.int .i64 (P)) := hV 3 (by decide)
      have e4 : x 4 = (.agg #[.int .i64 P, .slice A n c]) := hV 4 (by decide)
      have e5 : x 5 = (.slice X (pw n) cx) := hV 5 (by decide)
      have e6 : x 6 = (.slice Y n cy) := hV 6 (by decide)
      obtain ⟨A7, c7, e7, h7⟩ := hV 7 (by decide)
      obtain ⟨q0, q1⟩ := hS.1.two
      go_simp
      refine (l02Scale_any P _ n _ 2 PL _ hp hp2 (by omega) h7.rd HPN.out (by omega) (by omega)).mono ?_
      rintro e v1 ⟨A2, c2, rfl, hM⟩
      exact hK.out _ _ _ rfl rfl ⟨_, _, rfl, hM.after hS.2⟩ hM.b
    simp only [List.setIfInBounds_toArray, List.set_cons_zero, List.set_cons_succ]
    refine obs_step (Eq.trans (by simp only [List.getElem?_toArray, List.getElem?_cons_succ, List.getElem?_cons_zero]; exact rfl) rfl) rfl (fun w' hS hV K hK => ?_) ?_
    · obtain ⟨q0, q1⟩ := hS.1.two
      go_simp
      exact hK.out _ _ _ rfl rfl rfl (Below.refl _ _)
    simp only [List.setIfInBounds_toArray, List.set_cons_zero, List.set_cons_succ]
    refine obs_step (Eq.trans (by simp only [List.getElem?_toArray, List.getElem?_cons_succ, List.getElem?_cons_zero]; exact rfl) rfl) rfl (fun w' hS hV K hK => ?_) ?_
    · obtain ⟨q0, q1⟩ := hS.1.two
      go_simp
      exact hK.out _ _ _ rfl rfl rfl (Below.refl _ _)
    simp only [List.setIfInBounds_toArray, List.set_cons_zero, List.set_cons_succ]
    refine obs_step (Eq.trans (by simp only [List.getElem?_toArray, List.getElem?_cons_succ, List.getElem?_cons_zero]; exact rfl) rfl) rfl (fun w' hS hV K hK => ?_) ?_
    · have e10 : x 10 = (.pointer (some ⟨w.heap.size, 0, none⟩)) := hV 10 (by decide)
      obtain ⟨q0, q1⟩ := hS.1.two
      go_simp
      exact hK.out _ _ _ rfl rfl rfl (Below.refl _ _)
    simp only [List.setIfInBounds_toArray, List.set_cons_zero, List.set_cons_succ]
    refine obs_step (Eq.trans (by simp only [List.getElem?_toArray, List.getElem?_cons_succ, List.getElem?_cons_zero]; exact rfl) rfl) rfl (fun w' hS hV K hK => ?_) ?_
    · have e10 : x 10 = (.pointer (some ⟨w.heap.size, 0, none⟩)) := hV 10 (by decide)
      have e11 : x 11 = (.int .i64 (P)) := hV 11 (by decide)
      obtain ⟨q0, q1⟩ := hS.1.two
      go_simp
      exact hK.out _ _ _ rfl rfl rfl (Below.refl _ _)
    simp only [List.setIfInBounds_toArray, List.set_cons_zero, List.set_cons_succ]
    refine obs_step (Eq.trans (by simp only [List.getElem?_toArray, List.getElem?_cons_succ, List.getElem?_cons_zero]; exact rfl) rfl) rfl (fun w' hS hV K hK => ?_) ?_
    · have e0 : x 0 = (.pointer (some ⟨w.heap.size, 0, none⟩)) := hV 0 (by decide)
      have e1 : x 1 = (.int .i64 (P)) := hV 1 (by decide)
      have e2 : x 2 = (.pointer (some ⟨w.heap.size, 0, none⟩)) := hV 2 (by decide)
      have e3 : x 3 = (.int .i64 (P)) := hV 3 (by decide)
      have e4 : x 4 = (.agg #[.int .i64 P, .slice A n c]) := hV 4 (by decide)
      have e5 : x 5 = (.slice X (pw n) cx) := hV 5 (by decide)
      have e6 : x 6 = (.slice Y n cy) := hV 6 (by decide)
      obtain ⟨A7, c7, e7, h7⟩ := hV 7 (by decide)
      obtain ⟨A8, c8, e8, h8⟩ := hV 8 (by decide)
      have e9 : x 9 = (.slice Y n cy) := hV 9 (by decide)
      have e10 : x 10 = (.pointer (some ⟨w.heap.size, 0, none⟩)) := hV 10 (by decide)
      have e11 : x 11 = (.int .i64 (P)) := hV 11 (by decide)
      have e12 : x 12 = (.int .i64 (P - 1)) := hV 12 (by decide)
      obtain ⟨q0, q1⟩ := hS.1.two
      go_simp
      refine (l02Plus_any P _ n _ Y n cy (P - 1) (scaleL P PL 2) ys _ hp hp2 (by omega) (Nat.le_refl _) h8.rd (scaleL_nums (by omega) _ _) (HY.out.below hS.2) HYS.out (by omega) (by omega)).mono ?_
      rintro e v1 ⟨A2, c2, rfl, hM⟩
      exact hK.out _ _ _ rfl rfl ⟨_, _, rfl, hM.after hS.2⟩ hM.b
    simp only [List.setIfInBounds_toArray, List.set_cons_zero, List.set_cons_succ]
    refine obs_step (Eq.trans (by simp only [List.getElem?_toArray, List.getElem?_cons_succ, List.getElem?_cons_zero]; exact rfl) rfl) rfl (fun w' hS hV K hK => ?_) ?_
    · have e0 : x 0 = (.pointer (some ⟨w.heap.size, 0, none⟩)) := hV 0 (by decide)
      have e1 : x 1 = (.int .i64 (P)) := hV 1 (by decide)
      have e2 : x 2 = (.pointer (some ⟨w.heap.size, 0, none⟩)) := hV 2 (by decide)
      have e3 : x 3 = (.int .i64 (P)) := hV 3 (by decide)
      have e4 : x 4 = (.agg #[.int .i64 P, .slice A n c]) := hV 4 (by decide)
      have e5 : x 5 = (.slice X (pw n) cx) := hV 5 (by decide)
      have e6 : x 6 = (.slice Y n cy) := hV 6 (by decide)
      obtain ⟨A7, c7, e7, h7⟩ := hV 7 (by decide)
      obtain ⟨A8, c8, e8, h8⟩ := hV 8 (by decide)
      have e9 : x 9 = (.slice Y n cy) := hV 9 (by decide)
      have e10 : x 10 = (.pointer (some ⟨w.heap.size, 0, none⟩)) := hV 10 (by decide)
      have e11 : x 11 = (.int .i64 (P)) := hV 11 (by decide)
      have e12 : x 12 = (.int .i64 (P - 1)) := hV 12 (by decide)
      obtain ⟨A13, c13, e13, h13⟩ := hV 13 (by decide)
      obtain ⟨q0, q1⟩ := hS.1.two
      go_simp
      exact hK.out _ _ _ rfl rfl ⟨_, _, rfl, h13⟩ (Below.refl _ _)
    simp only [List.setIfInBounds_toArray, List.set_cons_zero, List.set_cons_succ]
    refine obs_step (Eq.trans (by simp only [List.getElem?_toArray, List.getElem?_cons_succ, List.getElem?_cons_zero]; exact rfl) rfl) rfl (fun w' hS hV K hK => ?_) ?_
    · obtain ⟨q0, q1⟩ := hS.1.two
      go_simp
      exact hK.out _ _ _ rfl rfl rfl (Below.refl _ _)
    simp only [List.setIfInBounds_toArray, List.set_cons_zero, List.set_cons_succ]
    refine fun w' hS hV => ?_
    have e0 : x 0 = (.pointer (some ⟨w.heap.size, 0, none⟩)) := hV 0 (by decide)
    have e1 : x 1 = (.int .i64 (P)) := hV 1 (by decide)
    have e2 : x 2 = (.pointer (some ⟨w.heap.size, 0, none⟩)) := hV 2 (by decide)
    have e3 : x 3 = (.int .i64 (P)) := hV 3 (by decide)
    have e4 : x 4 = (.agg #[.int .i64 P, .slice A n c]) := hV 4 (by decide)
    have e5 : x 5 = (.slice X (pw n) cx) := hV 5 (by decide)
    have e6 : x 6 = (.slice Y n cy) := hV 6 (by decide)
    obtain ⟨A7, c7, e7, h7⟩ := hV 7 (by decide)
    obtain ⟨A8, c8, e8, h8⟩ := hV 8 (by decide)
    have e9 : x 9 = (.slice Y n cy) := hV 9 (by decide)
    have e10 : x 10 = (.pointer (some ⟨w.heap.size, 0, none⟩)) := hV 10 (by decide)
    have e11 : x 11 = (.int .i64 (P)) := hV 11 (by decide)
    have e12 : x 12 = (.int .i64 (P - 1)) := hV 12 (by decide)
    obtain ⟨A13, c13, e13, h13⟩ := hV 13 (by decide)
    obtain ⟨A14, c14, e14, h14⟩ := hV 14 (by decide)
    have e15 : x 15 = (.int .i64 0) := hV 15 (by decide)
    simp only [e0, e1, e2, e3, e4, e5, e6, e7, e8, e9, e10, e11, e12, e13, e14, e15]
    clear e0 e1 e2 e3 e4 e5 e6 e7 e8 e9 e10 e11 e12 e13 e14 e15
    refine wpAny_done (by kernel_rfl) ?_ _
    go_wp2
    go_ret2
    exact aRow3 HRR.out (by rw [← plusL_last]; exact h14.after hB2)
  · obtain ⟨r, hr⟩ : ∃ r, r = codeLi P sq xs ys := ⟨_, rfl⟩
    have HR := Lib.hid hr
    have HR0 := Lib.hid hr0
    have b0 : (r != 0) = true := code_ne (by rw [hr]; exact hr0)
    rw [← hr] at hreg
    clear hr hr0
    go_enter Tryz.func45, Tryz.ntmps45
    go_wp2_with fail
    refine hreg.mono ?_
    rintro e w2 ⟨rfl, hb2⟩
    have hB2 := hB1.trans (hb2.mono hB1.size)
    have k2 := k1.below hb2 k1.lt
    obtain ⟨q0, q1⟩ := k2.two
    clear k0 hB0 k1 hB1 hb2
    go_wp2
    go_ret2
    exact noRow3 (by rw [rflR_bad HR0.out, HR.out]) hB2

end Go.Proofs.YtommppijnccomaaGreat
