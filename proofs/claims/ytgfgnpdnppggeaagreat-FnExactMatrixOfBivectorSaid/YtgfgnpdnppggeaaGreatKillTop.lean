/-
  KillingForm that a user calls: both sides return the same.
-/
import Derived.Test.YtgfgnpdnppggeaaGreatKill
namespace Go.Proofs.YtgfgnpdnppggeaaGreat
open Go.RowKit

theorem dotL_small {p : Int} (hp : 0 < p) (a b : List Int) : 0 ≤ dotL p a b ∧ dotL p a b < p := ⟨Int.emod_nonneg _ (by omega), Int.emod_lt_of_pos _ hp⟩
theorem timesM_tab {p : Int} {n : Nat} {M N : List (List Int)} (hp : 0 < p) (h0 : 0 < n) (hN : Tab p n N) (hNl : N.length = n) : Tab p n (timesM p M N) :=
  Tab.tab fun _ _ => ⟨by unfold applyL; rw [tab_len, transL_len hN (by omega)], NumsL.tab fun _ _ => dotL_small hp _ _⟩
theorem timesM_len (p : Int) (M N : List (List Int)) : (timesM p M N).length = M.length := tab_len _ _
/-- The matrix of a bivector. -/
def matL (P : Int) (sq : List Int) (n : Nat) (xs : List Int) : List (List Int) := transL (colsL P sq n xs)
theorem matL_tab {P : Int} (hp : 2 ≤ P) (sq : List Int) (n : Nat) (xs : List Int) : Tab P n (matL P sq n xs) := by
  have := transL_tab (show 0 < P by omega) (colsL_tab hp sq n xs)
  rwa [colsL_len] at this
theorem matL_len {P : Int} (hp : 2 ≤ P) (sq : List Int) {n : Nat} (h0 : 0 < n) (xs : List Int) : (matL P sq n xs).length = n := transL_len (colsL_tab hp sq n xs) (by rw [colsL_len]; exact h0)
/-- KillingForm. -/
def kfR (P : Int) (sq xs ys : List Int) : Int × Int := if codeB P sq [xs, ys] = 0 then (traceL P (timesM P (matL P sq sq.length xs) (matL P sq sq.length ys)), 0) else (0, codeB P sq [xs, ys])
theorem kfR_ok {P : Int} {sq xs ys : List Int} (h : codeB P sq [xs, ys] = 0) : kfR P sq xs ys = (traceL P (timesM P (matL P sq sq.length xs) (matL P sq sq.length ys)), 0) := by unfold kfR; rw [if_pos h]
theorem kfR_bad {P : Int} {sq xs ys : List Int} (h : ¬ codeB P sq [xs, ys] = 0) : kfR P sq xs ys = (0, codeB P sq [xs, ys]) := by unfold kfR; rw [if_neg h]
theorem ret_ii {R : Int × Int} {x y : Int} (h : R = (x, y)) : Ending.returned (.tuple #[.int .i64 x, .int .i64 y]) = .returned (.tuple #[.int .i64 R.1, .int .i64 R.2]) := by rw [h]

set_option maxHeartbeats 1600000 in
set_option maxRecDepth 8000 in
theorem KillingForm_any (P : Int) (A : Option Addr) (n c : Nat) (sq : List Int) (X : Option Addr) (m cx : Nat) (xs : List Int) (Y : Option Addr) (l cy : Nat) (ys : List Int) (w : World) (hn : n ≤ 1048576) (hm : m ≤ 1048576) (hl : l ≤ 1048576) (ha : Rd w A n (ints sq)) (hx : Rd w X m (ints xs)) (hcx : m ≤ cx) (hy : Rd w Y l (ints ys)) (hcy : l ≤ cy) :
    Calls Tryz.prog 33 #[.agg #[.int .i64 P, .slice A n c], .slice X m cx, .slice Y l cy] w fun e w' => e = .returned (.tuple #[.int .i64 (kfR P sq xs ys).1, .int .i64 (kfR P sq xs ys).2]) ∧ Below w.heap.size w w' := by
  have hB0 : Below w.heap.size w (w.alloc (.cells #[.int .i64 P, .slice A n c] 28)) := (Below.refl _ _).alloc (Nat.le_refl _) _
  have k0 : Blk (w.alloc (.cells #[.int .i64 P, .slice A n c] 28)) w.heap.size 28 #[.int .i64 P, .slice A n c] := Blk.new _ _ _
  have hB1 : Below w.heap.size w ((w.alloc (.cells #[.int .i64 P, .slice A n c] 28)).alloc (.cells #[.slice X m cx, .slice Y l cy] 22)) := hB0.alloc (by simp) _
  have k1 : Blk ((w.alloc (.cells #[.int .i64 P, .slice A n c] 28)).alloc (.cells #[.slice X m cx, .slice Y l cy] 22)) w.heap.size 28 #[.int .i64 P, .slice A n c] := k0.alloc _
  have hreg := checkBivectors_any P A (some ⟨w.heap.size + 1, 0, none⟩) n c 2 2 sq [xs, ys] ((w.alloc (.cells #[.int .i64 P, .slice A n c] 28)).alloc (.cells #[.slice X m cx, .slice Y l cy] 22)) hn (by omega) (ha.below hB1) (rdII_two (Blk.newAt (by simp)) (hx.below hB1) (hy.below hB1) hcx hcy) (all_two (by rw [hx.lenI]; exact hm) (by rw [hy.lenI]; exact hl))
  by_cases hr0 : codeB P sq [xs, ys] = 0
  · skip
    obtain ⟨HP, hp3, hp2, hd1, hd2, hs0, hms⟩ := codeM_spec2 (codeR_zero2 (codeB_zero hr0))
    have hsl := ha.lenI
    obtain ⟨hx1, hxs0⟩ := hms xs (by simp)
    obtain ⟨hy1, hys0⟩ := hms ys (by simp)
    have hmx : m = pw n := by rw [← hx.lenI, hx1, hsl]
    have hly : l = pw n := by rw [← hy.lenI, hy1, hsl]
    subst hmx
    subst hly
    rw [hr0] at hreg
    have HR0 := Lib.hid hr0
    have HSL := Lib.hid hsl
    have HS0 := Lib.hid hs0
    have HXS := Lib.hid hxs0
    have HYS := Lib.hid hys0
    have hn6 : n ≤ 6 := by omega
    have hn0 : 0 < n := by omega
    clear hr0 hsl hms hx1 hy1 hs0 hxs0 hys0 hd1 hd2
    go_enter Tryz.func33, Tryz.ntmps33
    go_wp2_with fail
    refine hreg.mono ?_
    rintro e w2 ⟨rfl, hb2⟩
    have hB2 := hB1.trans (hb2.mono hB1.size)
    have k2 := k1.below hb2 k1.lt
    obtain ⟨q0, q1⟩ := k2.two
    clear k0 hB0 k1 hB1 hb2
    clear hn
    have hn := hn6
    have hp : 2 ≤ P := by omega
    have hs := HS0.out
    have hxs := HXS.out
    have hys := HYS.out
    have HPW : pw n ≤ 65536 := Nat.le_trans (pw_le (show n ≤ 10 by omega)) (by decide)
    go_wp2
    refine wp_obs 14 [[], [0], [], [2], [], [], [4, 5], [], [], [7, 8], [2, 3, 4, 5, 6, 7, 8, 9], [0, 1, 2, 3, 4, 5, 6, 7, 8, 9, 10], [0, 1, 2, 3, 4, 5, 6, 7, 8, 9, 10, 11], []] [VIs (.agg #[.int .i64 P, .slice A n c]), VIs (.int .i64 P), VIs (.agg #[.int .i64 P, .slice A n c]), VIs (.int .i64 P), VIs (.agg #[.int .i64 P, .slice A n c]), VIs (.slice X (pw n) cx), VMat w (n) (matL P sq n xs), VIs (.agg #[.int .i64 P, .slice A n c]), VIs (.slice Y (pw n) cy), VMat w (n) (matL P sq n ys), VMat w (n) (timesM P (matL P sq n xs) (matL P sq n ys)), VIs (.int .i64 (traceL P (timesM P (matL P sq n xs) (matL P sq n ys)))), VIs (.int .i64 (traceL P (timesM P (matL P sq n xs) (matL P sq n ys)))), VIs (.int .i64 0)] (fun w' => Blk w' w.heap.size 28 #[.int .i64 P, .slice A n c] ∧ Below w.heap.size w w') (by kernel_rfl) (by kernel_rfl) (fun _ _ h hb => ⟨h.1.below hb h.1.lt, h.2.trans (hb.mono h.2.size)⟩) (⟨k2.drew, hB2.drew⟩) (fun x => ?_)
    refine obs_step (Eq.trans (by simp only [List.getElem?_toArray, List.getElem?_cons_zero]; exact rfl) rfl) rfl (fun w' hS hV K hK => ?_) ?_
    · obtain ⟨q0, q1⟩ := hS.1.two
      go_simp
      exact hK.out _ _ _ rfl rfl rfl (Below.refl _ _)
    simp only [List.setIfInBounds_toArray, List.set_cons_zero, List.set_cons_succ]
    refine obs_step (Eq.trans (by simp only [List.getElem?_toArray, List.getElem?_cons_succ, List.getElem?_cons_zero]; exact rfl) rfl) rfl (fun w' hS hV K hK => ?_) ?_
    · have e0 : x 0 = (.agg #[.int .i64 P, .slice A n c]) := hV 0 (by decide)
      obtain ⟨q0, q1⟩ := hS.1.two
      go_simp
      refine (field_any _ _ _ _ _).mono ?_
      rintro e w1 ⟨rfl, hb⟩
      exact hK.out _ _ _ rfl rfl rfl hb
    simp only [List.setIfInBounds_toArray, List.set_cons_zero, List.set_cons_succ]
    refine obs_step (Eq.trans (by simp only [List.getElem?_toArray, List.getElem?_cons_succ, List.getElem?_cons_zero]; exact rfl) rfl) rfl (fun w' hS hV K hK => ?_) ?_
    · obtain ⟨q0, q1⟩ := hS.1.two
      go_simp
      exact hK.out _ _ _ rfl rfl rfl (Below.refl _ _)
    simp only [List.setIfInBounds_toArray, List.set_cons_zero, List.set_cons_succ]
    refine obs_step (Eq.trans (by simp only [List.getElem?_toArray, List.getElem?_cons_succ, List.getElem?_cons_zero]; exact rfl) rfl) rfl (fun w' hS hV K hK => ?_) ?_
    · have e2 : x 2 = (.agg #[.int .i64 P, .slice A n c]) := hV 2 (by decide)
      obtain ⟨q0, q1⟩ := hS.1.two
      go_simp
      refine (field_any _ _ _ _ _).mono ?_
      rintro e w1 ⟨rfl, hb⟩
      exact hK.out _ _ _ rfl rfl rfl hb
    simp only [List.setIfInBounds_toArray, List.set_cons_zero, List.set_cons_succ]
    refine obs_step (Eq.trans (by simp only [List.getElem?_toArray, List.getElem?_cons_succ, List.getElem?_cons_zero]; exact rfl) rfl) rfl (fun w' hS hV K hK => ?_) ?_
    · obtain ⟨q0, q1⟩ := hS.1.two
      go_simp
      exact hK.out _ _ _ rfl rfl rfl (Below.refl _ _)
    simp only [List.setIfInBounds_toArray, List.set_cons_zero, List.set_cons_succ]
    refine obs_step (Eq.trans (by simp only [List.getElem?_toArray, List.getElem?_cons_succ, List.getElem?_cons_zero]; exact rfl) rfl) rfl (fun w' hS hV K hK => ?_) ?_
    · obtain ⟨q0, q1⟩ := hS.1.two
      go_simp
      exact hK.out _ _ _ rfl rfl rfl (Below.refl _ _)
    simp only [List.setIfInBounds_toArray, List.set_cons_zero, List.set_cons_succ]
    refine obs_step (Eq.trans (by simp only [List.getElem?_toArray, List.getElem?_cons_succ, List.getElem?_cons_zero]; exact rfl) rfl) rfl (fun w' hS hV K hK => ?_) ?_
    · have e4 : x 4 = (.agg #[.int .i64 P, .slice A n c]) := hV 4 (by decide)
      have e5 : x 5 = (.slice X (pw n) cx) := hV 5 (by decide)
      obtain ⟨q0, q1⟩ := hS.1.two
      go_simp
      refine (turning_any P A n c sq _ _ xs _ hp hp2 hn hn0 (ha.below hS.2) hs (hx.below hS.2) hxs hcx HP).mono ?_
      rintro e w1 ⟨A2, c2, rfl, hM⟩
      exact hK.out _ _ _ rfl rfl ⟨_, _, rfl, hM.after hS.2⟩ hM.b
    simp only [List.setIfInBounds_toArray, List.set_cons_zero, List.set_cons_succ]
    refine obs_step (Eq.trans (by simp only [List.getElem?_toArray, List.getElem?_cons_succ, List.getElem?_cons_zero]; exact rfl) rfl) rfl (fun w' hS hV K hK => ?_) ?_
    · obtain ⟨q0, q1⟩ := hS.1.two
      go_simp
      exact hK.out _ _ _ rfl rfl rfl (Below.refl _ _)
    simp only [List.setIfInBounds_toArray, List.set_cons_zero, List.set_cons_succ]
    refine obs_step (Eq.trans (by simp only [List.getElem?_toArray, List.getElem?_cons_succ, List.getElem?_cons_zero]; exact rfl) rfl) rfl (fun w' hS hV K hK => ?_) ?_
    · obtain ⟨q0, q1⟩ := hS.1.two
      go_simp
      exact hK.out _ _ _ rfl rfl rfl (Below.refl _ _)
    simp only [List.setIfInBounds_toArray, List.set_cons_zero, List.set_cons_succ]
    refine obs_step (Eq.trans (by simp only [List.getElem?_toArray, List.getElem?_cons_succ, List.getElem?_cons_zero]; exact rfl) rfl) rfl (fun w' hS hV K hK => ?_) ?_
    · have e7 : x 7 = (.agg #[.int .i64 P, .slice A n c]) := hV 7 (by decide)
      have e8 : x 8 = (.slice Y (pw n) cy) := hV 8 (by decide)
      obtain ⟨q0, q1⟩ := hS.1.two
      go_simp
      refine (turning_any P A n c sq _ _ ys _ hp hp2 hn hn0 (ha.below hS.2) hs (hy.below hS.2) hys hcy HP).mono ?_
      rintro e w1 ⟨A2, c2, rfl, hM⟩
      exact hK.out _ _ _ rfl rfl ⟨_, _, rfl, hM.after hS.2⟩ hM.b
    simp only [List.setIfInBounds_toArray, List.set_cons_zero, List.set_cons_succ]
    refine obs_step (Eq.trans (by simp only [List.getElem?_toArray, List.getElem?_cons_succ, List.getElem?_cons_zero]; exact rfl) rfl) rfl (fun w' hS hV K hK => ?_) ?_
    · have e2 : x 2 = (.agg #[.int .i64 P, .slice A n c]) := hV 2 (by decide)
      have e3 : x 3 = (.int .i64 P) := hV 3 (by decide)
      have e4 : x 4 = (.agg #[.int .i64 P, .slice A n c]) := hV 4 (by decide)
      have e5 : x 5 = (.slice X (pw n) cx) := hV 5 (by decide)
      obtain ⟨A6, c6, e6, h6⟩ := hV 6 (by decide)
      have e7 : x 7 = (.agg #[.int .i64 P, .slice A n c]) := hV 7 (by decide)
      have e8 : x 8 = (.slice Y (pw n) cy) := hV 8 (by decide)
      obtain ⟨A9, c9, e9, h9⟩ := hV 9 (by decide)
      obtain ⟨q0, q1⟩ := hS.1.two
      go_simp
      refine (timesM_any P _ n _ (matL P sq n xs) _ _ (matL P sq n ys) _ hp hp2 hn0 (by omega) h6.rd (matL_tab hp sq n xs) h9.rd (matL_tab hp sq n ys)).mono ?_
      rintro e w1 ⟨A2, c2, rfl, hM⟩
      exact hK.out _ _ _ rfl rfl ⟨_, _, rfl, hM.after hS.2⟩ hM.b
    simp only [List.setIfInBounds_toArray, List.set_cons_zero, List.set_cons_succ]
    refine obs_step (Eq.trans (by simp only [List.getElem?_toArray, List.getElem?_cons_succ, List.getElem?_cons_zero]; exact rfl) rfl) rfl (fun w' hS hV K hK => ?_) ?_
    · have e0 : x 0 = (.agg #[.int .i64 P, .slice A n c]) := hV 0 (by decide)
      have e1 : x 1 = (.int .i64 P) := hV 1 (by decide)
      have e2 : x 2 = (.agg #[.int .i64 P, .slice A n c]) := hV 2 (by decide)
      have e3 : x 3 = (.int .i64 P) := hV 3 (by decide)
      have e4 : x 4 = (.agg #[.int .i64 P, .slice A n c]) := hV 4 (by decide)
      have e5 : x 5 = (.slice X (pw n) cx) := hV 5 (by decide)
      obtain ⟨A6, c6, e6, h6⟩ := hV 6 (by decide)
      have e7 : x 7 = (.agg #[.int .i64 P, .slice A n c]) := hV 7 (by decide)
      have e8 : x 8 = (.slice Y (pw n) cy) := hV 8 (by decide)
      obtain ⟨A9, c9, e9, h9⟩ := hV 9 (by decide)
      obtain ⟨A10, c10, e10, h10⟩ := hV 10 (by decide)
      obtain ⟨q0, q1⟩ := hS.1.two
      go_simp
      refine (trace_any P _ n _ (timesM P (matL P sq n xs) (matL P sq n ys)) _ hp hp2 (by omega) h10.rd (timesM_tab (by omega) hn0 (matL_tab hp sq n ys) (matL_len hp sq hn0 ys))).mono ?_
      rintro e w1 ⟨rfl, rfl⟩
      exact hK.out _ _ _ rfl rfl rfl (Below.refl _ _)
    simp only [List.setIfInBounds_toArray, List.set_cons_zero, List.set_cons_succ]
    refine obs_step (Eq.trans (by simp only [List.getElem?_toArray, List.getElem?_cons_succ, List.getElem?_cons_zero]; exact rfl) rfl) rfl (fun w' hS hV K hK => ?_) ?_
    · have e0 : x 0 = (.agg #[.int .i64 P, .slice A n c]) := hV 0 (by decide)
      have e1 : x 1 = (.int .i64 P) := hV 1 (by decide)
      have e2 : x 2 = (.agg #[.int .i64 P, .slice A n c]) := hV 2 (by decide)
      have e3 : x 3 = (.int .i64 P) := hV 3 (by decide)
      have e4 : x 4 = (.agg #[.int .i64 P, .slice A n c]) := hV 4 (by decide)
      have e5 : x 5 = (.slice X (pw n) cx) := hV 5 (by decide)
      obtain ⟨A6, c6, e6, h6⟩ := hV 6 (by decide)
      have e7 : x 7 = (.agg #[.int .i64 P, .slice A n c]) := hV 7 (by decide)
      have e8 : x 8 = (.slice Y (pw n) cy) := hV 8 (by decide)
      obtain ⟨A9, c9, e9, h9⟩ := hV 9 (by decide)
      obtain ⟨A10, c10, e10, h10⟩ := hV 10 (by decide)
      have e11 : x 11 = (.int .i64 (traceL P (timesM P (matL P sq n xs) (matL P sq n ys)))) := hV 11 (by decide)
      obtain ⟨q0, q1⟩ := hS.1.two
      go_simp
      exact hK.out _ _ _ rfl rfl rfl (Below.refl _ _)
    simp only [List.setIfInBounds_toArray, List.set_cons_zero, List.set_cons_succ]
    refine obs_step (Eq.trans (by simp only [List.getElem?_toArray, List.getElem?_cons_succ, List.getElem?_cons_zero]; exact rfl) rfl) rfl (fun w' hS hV K hK => ?_) ?_
    · obtain ⟨q0, q1⟩ := hS.1.two
      go_simp
      exact hK.out _ _ _ rfl rfl rfl (Below.refl _ _)
    simp only [List.setIfInBounds_toArray, List.set_cons_zero, List.set_cons_succ]
    refine fun w' hS hV => ?_
    have e0 : x 0 = (.agg #[.int .i64 P, .slice A n c]) := hV 0 (by decide)
    have e1 : x 1 = (.int .i64 P) := hV 1 (by decide)
    have e2 : x 2 = (.agg #[.int .i64 P, .slice A n c]) := hV 2 (by decide)
    have e3 : x 3 = (.int .i64 P) := hV 3 (by decide)
    have e4 : x 4 = (.agg #[.int .i64 P, .slice A n c]) := hV 4 (by decide)
    have e5 : x 5 = (.slice X (pw n) cx) := hV 5 (by decide)
    obtain ⟨A6, c6, e6, h6⟩ := hV 6 (by decide)
    have e7 : x 7 = (.agg #[.int .i64 P, .slice A n c]) := hV 7 (by decide)
    have e8 : x 8 = (.slice Y (pw n) cy) := hV 8 (by decide)
    obtain ⟨A9, c9, e9, h9⟩ := hV 9 (by decide)
    obtain ⟨A10, c10, e10, h10⟩ := hV 10 (by decide)
    have e11 : x 11 = (.int .i64 (traceL P (timesM P (matL P sq n xs) (matL P sq n ys)))) := hV 11 (by decide)
    have e12 : x 12 = (.int .i64 (traceL P (timesM P (matL P sq n xs) (matL P sq n ys)))) := hV 12 (by decide)
    have e13 : x 13 = (.int .i64 0) := hV 13 (by decide)
    simp only [e0, e1, e2, e3, e4, e5, e6, e7, e8, e9, e10, e11, e12, e13]
    clear e0 e1 e2 e3 e4 e5 e6 e7 e8 e9 e10 e11 e12 e13
    refine wpAny_done (by kernel_rfl) ?_ _
    go_wp2
    go_ret2
    exact ⟨ret_ii (by rw [kfR_ok HR0.out, HSL.out]), hS.2⟩
  · obtain ⟨r, hr⟩ : ∃ r, r = codeB P sq [xs, ys] := ⟨_, rfl⟩
    have HR := Lib.hid hr
    have HR0 := Lib.hid hr0
    have b0 : (r != 0) = true := code_ne (by rw [hr]; exact hr0)
    rw [← hr] at hreg
    clear hr hr0
    go_enter Tryz.func33, Tryz.ntmps33
    go_wp2_with fail
    refine hreg.mono ?_
    rintro e w2 ⟨rfl, hb2⟩
    have hB2 := hB1.trans (hb2.mono hB1.size)
    have k2 := k1.below hb2 k1.lt
    obtain ⟨q0, q1⟩ := k2.two
    clear k0 hB0 k1 hB1 hb2
    go_wp2
    go_ret2
    exact ⟨ret_ii (by rw [kfR_bad HR0.out, HR.out]), hB2⟩

set_option maxHeartbeats 1600000 in
set_option maxRecDepth 8000 in
theorem specKillingForm_any (P : Int) (A : Option Addr) (n c : Nat) (sq : List Int) (X : Option Addr) (m cx : Nat) (xs : List Int) (Y : Option Addr) (l cy : Nat) (ys : List Int) (w : World) (hn : n ≤ 1048576) (hm : m ≤ 1048576) (hl : l ≤ 1048576) (ha : Rd w A n (ints sq)) (hx : Rd w X m (ints xs)) (hcx : m ≤ cx) (hy : Rd w Y l (ints ys)) (hcy : l ≤ cy) :
    Calls Tryz.prog 32 #[.agg #[.int .i64 P, .slice A n c], .slice X m cx, .slice Y l cy] w fun e w' => e = .returned (.tuple #[.int .i64 (kfR P sq xs ys).1, .int .i64 (kfR P sq xs ys).2]) ∧ Below w.heap.size w w' := by
  have hB0 : Below w.heap.size w (w.alloc (.cells #[.int .i64 P, .slice A n c] 28)) := (Below.refl _ _).alloc (Nat.le_refl _) _
  have k0 : Blk (w.alloc (.cells #[.int .i64 P, .slice A n c] 28)) w.heap.size 28 #[.int .i64 P, .slice A n c] := Blk.new _ _ _
  have hB1 : Below w.heap.size w ((w.alloc (.cells #[.int .i64 P, .slice A n c] 28)).alloc (.cells #[.slice X m cx, .slice Y l cy] 22)) := hB0.alloc (by simp) _
  have k1 : Blk ((w.alloc (.cells #[.int .i64 P, .slice A n c] 28)).alloc (.cells #[.slice X m cx, .slice Y l cy] 22)) w.heap.size 28 #[.int .i64 P, .slice A n c] := k0.alloc _
  have hreg := l10Code_any P A (some ⟨w.heap.size + 1, 0, none⟩) n c 2 2 sq [xs, ys] ((w.alloc (.cells #[.int .i64 P, .slice A n c] 28)).alloc (.cells #[.slice X m cx, .slice Y l cy] 22)) hn (by omega) (ha.below hB1) (rdII_two (Blk.newAt (by simp)) (hx.below hB1) (hy.below hB1) hcx hcy) (all_two (by rw [hx.lenI]; exact hm) (by rw [hy.lenI]; exact hl))
  by_cases hr0 : codeB P sq [xs, ys] = 0
  · skip
    obtain ⟨HP, hp3, hp2, hd1, hd2, hs0, hms⟩ := codeM_spec2 (codeR_zero2 (codeB_zero hr0))
    have hsl := ha.lenI
    obtain ⟨hx1, hxs0⟩ := hms xs (by simp)
    obtain ⟨hy1, hys0⟩ := hms ys (by simp)
    have hmx : m = pw n := by rw [← hx.lenI, hx1, hsl]
    have hly : l = pw n := by rw [← hy.lenI, hy1, hsl]
    subst hmx
    subst hly
    rw [hr0] at hreg
    have HR0 := Lib.hid hr0
    have HSL := Lib.hid hsl
    have HS0 := Lib.hid hs0
    have HXS := Lib.hid hxs0
    have HYS := Lib.hid hys0
    have hn6 : n ≤ 6 := by omega
    have hn0 : 0 < n := by omega
    clear hr0 hsl hms hx1 hy1 hs0 hxs0 hys0 hd1 hd2
    go_enter Tryz.func32, Tryz.ntmps32
    go_wp2_with fail
    refine hreg.mono ?_
    rintro e w2 ⟨rfl, hb2⟩
    have hB2 := hB1.trans (hb2.mono hB1.size)
    have k2 := k1.below hb2 k1.lt
    obtain ⟨q0, q1⟩ := k2.two
    clear k0 hB0 k1 hB1 hb2
    clear hn
    have hn := hn6
    have hp : 2 ≤ P := by omega
    have hs := HS0.out
    have hxs := HXS.out
    have hys := HYS.out
    have HPW : pw n ≤ 65536 := Nat.le_trans (pw_le (show n ≤ 10 by omega)) (by decide)
    go_wp2
    refine wp_obs 11 [[], [0], [], [], [2, 3], [], [], [5, 6], [0, 1, 2, 3, 4, 5, 6, 7], [0, 1, 2, 3, 4, 5, 6, 7, 8], []] [VIs (.pointer (some ⟨w.heap.size, 0, none⟩)), VIs (.int .i64 P), VIs (.agg #[.int .i64 P, .slice A n c]), VIs (.slice X (pw n) cx), VMat w (n) (matL P sq n xs), VIs (.agg #[.int .i64 P, .slice A n c]), VIs (.slice Y (pw n) cy), VMat w (n) (matL P sq n ys), VMat w (n) (timesM P (matL P sq n xs) (matL P sq n ys)), VMat w (n) (timesM P (matL P sq n xs) (matL P sq n ys)), VIs (.int .i64 0)] (fun w' => Blk w' w.heap.size 28 #[.int .i64 P, .slice A n c] ∧ Below w.heap.size w w') (by kernel_rfl) (by kernel_rfl) (fun _ _ h hb => ⟨h.1.below hb h.1.lt, h.2.trans (hb.mono h.2.size)⟩) (⟨k2.drew, hB2.drew⟩) (fun x => ?_)
    refine obs_step (Eq.trans (by simp only [List.getElem?_toArray, List.getElem?_cons_zero]; exact rfl) rfl) rfl (fun w' hS hV K hK => ?_) ?_
    · obtain ⟨q0, q1⟩ := hS.1.two
      go_simp
      exact hK.out _ _ _ rfl rfl rfl (Below.refl _ _)
    simp only [List.setIfInBounds_toArray, List.set_cons_zero, List.set_cons_succ]
    refine obs_step (Eq.trans (by simp only [List.getElem?_toArray, List.getElem?_cons_succ, List.getElem?_cons_zero]; exact rfl) rfl) rfl (fun w' hS hV K hK => ?_) ?_
    · have e0 : x 0 = (.pointer (some ⟨w.heap.size, 0, none⟩)) := hV 0 (by decide)
      obtain ⟨q0, q1⟩ := hS.1.two
      go_simp
      exact hK.out _ _ _ rfl rfl rfl (Below.refl _ _)
    simp only [List.setIfInBounds_toArray, List.set_cons_zero, List.set_cons_succ]
    refine obs_step (Eq.trans (by simp only [List.getElem?_toArray, List.getElem?_cons_succ, List.getElem?_cons_zero]; exact rfl) rfl) rfl (fun w' hS hV K hK => ?_) ?_
    · obtain ⟨q0, q1⟩ := hS.1.two
      go_simp
      exact hK.out _ _ _ rfl rfl rfl (Below.refl _ _)
    simp only [List.setIfInBounds_toArray, List.set_cons_zero, List.set_cons_succ]
    refine obs_step (Eq.trans (by simp only [List.getElem?_toArray, List.getElem?_cons_succ, List.getElem?_cons_zero]; exact rfl) rfl) rfl (fun w' hS hV K hK => ?_) ?_
    · obtain ⟨q0, q1⟩ := hS.1.two
      go_simp
      exact hK.out _ _ _ rfl rfl rfl (Below.refl _ _)
    simp only [List.setIfInBounds_toArray, List.set_cons_zero, List.set_cons_succ]
    refine obs_step (Eq.trans (by simp only [List.getElem?_toArray, List.getElem?_cons_succ, List.getElem?_cons_zero]; exact rfl) rfl) rfl (fun w' hS hV K hK => ?_) ?_
    · have e2 : x 2 = (.agg #[.int .i64 P, .slice A n c]) := hV 2 (by decide)
      have e3 : x 3 = (.slice X (pw n) cx) := hV 3 (by decide)
      obtain ⟨q0, q1⟩ := hS.1.two
      go_simp
      refine (l10Matrix_any P A n c sq _ _ xs _ hp hp2 hn hn0 (ha.below hS.2) hs (hx.below hS.2) hxs HP).mono ?_
      rintro e w1 ⟨A2, c2, rfl, hM⟩
      exact hK.out _ _ _ rfl rfl ⟨_, _, rfl, hM.after hS.2⟩ hM.b
    simp only [List.setIfInBounds_toArray, List.set_cons_zero, List.set_cons_succ]
    refine obs_step (Eq.trans (by simp only [List.getElem?_toArray, List.getElem?_cons_succ, List.getElem?_cons_zero]; exact rfl) rfl) rfl (fun w' hS hV K hK => ?_) ?_
    · obtain ⟨q0, q1⟩ := hS.1.two
      go_simp
      exact hK.out _ _ _ rfl rfl rfl (Below.refl _ _)
    simp only [List.setIfInBounds_toArray, List.set_cons_zero, List.set_cons_succ]
    refine obs_step (Eq.trans (by simp only [List.getElem?_toArray, List.getElem?_cons_succ, List.getElem?_cons_zero]; exact rfl) rfl) rfl (fun w' hS hV K hK => ?_) ?_
    · obtain ⟨q0, q1⟩ := hS.1.two
      go_simp
      exact hK.out _ _ _ rfl rfl rfl (Below.refl _ _)
    simp only [List.setIfInBounds_toArray, List.set_cons_zero, List.set_cons_succ]
    refine obs_step (Eq.trans (by simp only [List.getElem?_toArray, List.getElem?_cons_succ, List.getElem?_cons_zero]; exact rfl) rfl) rfl (fun w' hS hV K hK => ?_) ?_
    · have e5 : x 5 = (.agg #[.int .i64 P, .slice A n c]) := hV 5 (by decide)
      have e6 : x 6 = (.slice Y (pw n) cy) := hV 6 (by decide)
      obtain ⟨q0, q1⟩ := hS.1.two
      go_simp
      refine (l10Matrix_any P A n c sq _ _ ys _ hp hp2 hn hn0 (ha.below hS.2) hs (hy.below hS.2) hys HP).mono ?_
      rintro e w1 ⟨A2, c2, rfl, hM⟩
      exact hK.out _ _ _ rfl rfl ⟨_, _, rfl, hM.after hS.2⟩ hM.b
    simp only [List.setIfInBounds_toArray, List.set_cons_zero, List.set_cons_succ]
    refine obs_step (Eq.trans (by simp only [List.getElem?_toArray, List.getElem?_cons_succ, List.getElem?_cons_zero]; exact rfl) rfl) rfl (fun w' hS hV K hK => ?_) ?_
    · have e0 : x 0 = (.pointer (some ⟨w.heap.size, 0, none⟩)) := hV 0 (by decide)
      have e1 : x 1 = (.int .i64 P) := hV 1 (by decide)
      have e2 : x 2 = (.agg #[.int .i64 P, .slice A n c]) := hV 2 (by decide)
      have e3 : x 3 = (.slice X (pw n) cx) := hV 3 (by decide)
      obtain ⟨A4, c4, e4, h4⟩ := hV 4 (by decide)
      have e5 : x 5 = (.agg #[.int .i64 P, .slice A n c]) := hV 5 (by decide)
      have e6 : x 6 = (.slice Y (pw n) cy) := hV 6 (by decide)
      obtain ⟨A7, c7, e7, h7⟩ := hV 7 (by decide)
      obtain ⟨q0, q1⟩ := hS.1.two
      go_simp
      refine (l02Times_any P _ n _ (matL P sq n xs) _ _ (matL P sq n ys) _ hp hp2 hn0 (by omega) h4.rd (matL_tab hp sq n xs) h7.rd (matL_tab hp sq n ys)).mono ?_
      rintro e w1 ⟨A2, c2, rfl, hM⟩
      exact hK.out _ _ _ rfl rfl ⟨_, _, rfl, hM.after hS.2⟩ hM.b
    simp only [List.setIfInBounds_toArray, List.set_cons_zero, List.set_cons_succ]
    refine obs_step (Eq.trans (by simp only [List.getElem?_toArray, List.getElem?_cons_succ, List.getElem?_cons_zero]; exact rfl) rfl) rfl (fun w' hS hV K hK => ?_) ?_
    · have e0 : x 0 = (.pointer (some ⟨w.heap.size, 0, none⟩)) := hV 0 (by decide)
      have e1 : x 1 = (.int .i64 P) := hV 1 (by decide)
      have e2 : x 2 = (.agg #[.int .i64 P, .slice A n c]) := hV 2 (by decide)
      have e3 : x 3 = (.slice X (pw n) cx) := hV 3 (by decide)
      obtain ⟨A4, c4, e4, h4⟩ := hV 4 (by decide)
      have e5 : x 5 = (.agg #[.int .i64 P, .slice A n c]) := hV 5 (by decide)
      have e6 : x 6 = (.slice Y (pw n) cy) := hV 6 (by decide)
      obtain ⟨A7, c7, e7, h7⟩ := hV 7 (by decide)
      obtain ⟨A8, c8, e8, h8⟩ := hV 8 (by decide)
      obtain ⟨q0, q1⟩ := hS.1.two
      go_simp
      exact hK.out _ _ _ rfl rfl ⟨_, _, rfl, h8⟩ (Below.refl _ _)
    simp only [List.setIfInBounds_toArray, List.set_cons_zero, List.set_cons_succ]
    refine obs_step (Eq.trans (by simp only [List.getElem?_toArray, List.getElem?_cons_succ, List.getElem?_cons_zero]; exact rfl) rfl) rfl (fun w' hS hV K hK => ?_) ?_
    · obtain ⟨q0, q1⟩ := hS.1.two
      go_simp
      exact hK.out _ _ _ rfl rfl rfl (Below.refl _ _)
    simp only [List.setIfInBounds_toArray, List.set_cons_zero, List.set_cons_succ]
    refine fun w' hS hV => ?_
    have e0 : x 0 = (.pointer (some ⟨w.heap.size, 0, none⟩)) := hV 0 (by decide)
    have e1 : x 1 = (.int .i64 P) := hV 1 (by decide)
    have e2 : x 2 = (.agg #[.int .i64 P, .slice A n c]) := hV 2 (by decide)
    have e3 : x 3 = (.slice X (pw n) cx) := hV 3 (by decide)
    obtain ⟨A4, c4, e4, h4⟩ := hV 4 (by decide)
    have e5 : x 5 = (.agg #[.int .i64 P, .slice A n c]) := hV 5 (by decide)
    have e6 : x 6 = (.slice Y (pw n) cy) := hV 6 (by decide)
    obtain ⟨A7, c7, e7, h7⟩ := hV 7 (by decide)
    obtain ⟨A8, c8, e8, h8⟩ := hV 8 (by decide)
    obtain ⟨A9, c9, e9, h9⟩ := hV 9 (by decide)
    have e10 : x 10 = (.int .i64 0) := hV 10 (by decide)
    simp only [e0, e1, e2, e3, e4, e5, e6, e7, e8, e9, e10]
    clear e0 e1 e2 e3 e4 e5 e6 e7 e8 e9 e10
    refine wpAny_done (by kernel_rfl) ?_ _
    obtain ⟨w3, hw3⟩ : ∃ W, W = w' := ⟨_, rfl⟩
    rw [← hw3] at hS h9 ⊢
    clear hw3
    obtain ⟨k3, hB3⟩ := hS
    clear q0 q1 k2 hB2
    have hMM := h9.rd
    have hTT := timesM_tab (M := matL P sq n xs) (show 0 < P by omega) hn0 (matL_tab hp sq n ys) (matL_len hp sq hn0 ys)
    have hLL : (timesM P (matL P sq n xs) (matL P sq n ys)).length = n := by rw [timesM_len, matL_len hp sq hn0]
    have HTT := Lib.hid hTT
    clear hTT
    obtain ⟨MM, hMMe⟩ : ∃ M, M = timesM P (matL P sq n xs) (matL P sq n ys) := ⟨_, rfl⟩
    have HMM := Lib.hid hMMe
    rw [← hMMe] at hMM HTT hLL
    have HLL := Lib.hid hLL
    clear hMMe hLL
    go_wp2
    go_loopw [10, 11] (fun s i wr => ∃ i' : Nat, i' ≤ n ∧ i = .int .i64 i' ∧ s = .int .i64 ((sumTo i' fun i => ent MM i i) % P) ∧ Blk wr w.heap.size 28 #[.int .i64 P, .slice A n c] ∧ Below w3.heap.size w3 wr) (fun _ i _ => n - (intOf i).toNat)
    case atStart => exact ⟨0, by omega, rfl, by simp [sumTo], k3, Below.refl _ _⟩
    case round =>
      obtain ⟨i, hi, rfl, rfl, k4, hB4⟩ := hrel
      have hstep := Lib.hid (sumTo_step P i fun i => ent MM i i)
      have s1 := Int.emod_nonneg (sumTo i fun i => ent MM i i) (show P ≠ 0 by omega)
      have s2 := Int.emod_lt_of_pos (sumTo i fun i => ent MM i i) (show 0 < P by omega)
      have hend : Hid (i = n → traceL P MM = (sumTo i fun i => ent MM i i) % P) := Lib.hid (fun h => by unfold traceL; rw [HLL.out, h])
      obtain ⟨s, hs⟩ : ∃ s, s = (sumTo i fun i => ent MM i i) % P := ⟨_, rfl⟩
      rw [← hs] at s1 s2 hstep hend ⊢
      clear hs
      by_cases hlt : i < n
      · obtain ⟨g, o, rfl, hxi, A1, c1, hcx1, hr1, _⟩ := (hMM.below hB4).at_ hlt
        obtain ⟨hl1, hn1⟩ := HTT.out MM[i] (List.getElem_mem hxi)
        rw [hl1] at hcx1 hr1
        obtain ⟨g2, o2, rfl, hxe, hce1⟩ := hr1.int hlt
        obtain ⟨x1, x2⟩ := hn1 _ (List.getElem_mem hxe)
        have HV : Hid ((sumTo (i + 1) fun i => ent MM i i) % P = (s + MM[i][i]) % P) := Lib.hid (by rw [← hstep.out, ent_at hxi hxe])
        have W2 := i64_fit (s + MM[i][i]) (by omega) (by omega)
        have W3 : (s + MM[i][i]).tmod P = (s + MM[i][i]) % P := Int.tmod_eq_emod_of_nonneg (by omega)
        have hP0 : ¬ P = 0 := by omega
        have i1 : (0 : Int) ≤ (i : Int) := by omega
        have i2 : (i : Int) < (n : Int) := by omega
        clear hr1 hl1 hn1 hMM h9
        go_wp2
        refine wp_obs 12 [[], [], [], [1, 2], [1, 2, 3], [], [1, 2, 3, 4, 5], [1, 2, 3, 4, 5, 6], [0, 1, 2, 3, 4, 5, 6, 7], [], [9], [0, 1, 2, 3, 4, 5, 6, 7, 8, 9, 10], [0, 1, 2, 3, 4, 5, 6, 7, 8, 9, 10, 11]] [VIs (.int .i64 (s)), VIs (.slice (some ⟨g, o, none⟩) n c9), VIs (.int .i64 (i)), VIs (.pointer (some ⟨g, o + i, none⟩)), VIs (.slice (some ⟨g2, o2, none⟩) n c1), VIs (.int .i64 (i)), VIs (.pointer (some ⟨g2, o2 + i, none⟩)), VIs (.int .i64 (MM[i][i])), VIs (.int .i64 (s + MM[i][i])), VIs (.pointer (some ⟨w.heap.size, 0, none⟩)), VIs (.int .i64 (P)), VIs (.int .i64 ((s + MM[i][i]) % P))] (fun w' => Blk w' w.heap.size 28 #[.int .i64 P, .slice A n c] ∧ Below w3.heap.size w3 w' ∧ w'.cell? ⟨g, o + i, none⟩ = some (.slice (some ⟨g2, o2, none⟩) n c1) ∧ w'.cell? ⟨g2, o2 + i, none⟩ = some (.int .i64 MM[i][i])) (by kernel_rfl) (by kernel_rfl) (fun _ _ h hb => ⟨h.1.below hb h.1.lt, h.2.1.trans (hb.mono h.2.1.size), (hb.cell (World.block_lt_of_cell? _ _ h.2.2.1)).trans h.2.2.1, (hb.cell (World.block_lt_of_cell? _ _ h.2.2.2)).trans h.2.2.2⟩) (⟨k4.drew, hB4.drew, hcx1, hce1⟩) (fun x => ?_)
        refine obs_step (Eq.trans (by simp only [List.getElem?_toArray, List.getElem?_cons_zero]; exact rfl) rfl) rfl (fun w' hS hV K hK => ?_) ?_
        · obtain ⟨q0, q1⟩ := hS.1.two; have q2 := hS.2.2.1; have q3 := hS.2.2.2
          go_simp
          exact hK.out _ _ _ rfl rfl rfl (Below.refl _ _)
        simp only [List.setIfInBounds_toArray, List.set_cons_zero, List.set_cons_succ]
        refine obs_step (Eq.trans (by simp only [List.getElem?_toArray, List.getElem?_cons_succ, List.getElem?_cons_zero]; exact rfl) rfl) rfl (fun w' hS hV K hK => ?_) ?_
        · obtain ⟨q0, q1⟩ := hS.1.two; have q2 := hS.2.2.1; have q3 := hS.2.2.2
          go_simp
          exact hK.out _ _ _ rfl rfl rfl (Below.refl _ _)
        simp only [List.setIfInBounds_toArray, List.set_cons_zero, List.set_cons_succ]
        refine obs_step (Eq.trans (by simp only [List.getElem?_toArray, List.getElem?_cons_succ, List.getElem?_cons_zero]; exact rfl) rfl) rfl (fun w' hS hV K hK => ?_) ?_
        · obtain ⟨q0, q1⟩ := hS.1.two; have q2 := hS.2.2.1; have q3 := hS.2.2.2
          go_simp
          exact hK.out _ _ _ rfl rfl rfl (Below.refl _ _)
        simp only [List.setIfInBounds_toArray, List.set_cons_zero, List.set_cons_succ]
        refine obs_step (Eq.trans (by simp only [List.getElem?_toArray, List.getElem?_cons_succ, List.getElem?_cons_zero]; exact rfl) rfl) rfl (fun w' hS hV K hK => ?_) ?_
        · have e1 : x 1 = (.slice (some ⟨g, o, none⟩) n c9) := hV 1 (by decide)
          have e2 : x 2 = (.int .i64 (i)) := hV 2 (by decide)
          obtain ⟨q0, q1⟩ := hS.1.two; have q2 := hS.2.2.1; have q3 := hS.2.2.2
          go_simp
          exact hK.out _ _ _ rfl rfl rfl (Below.refl _ _)
        simp only [List.setIfInBounds_toArray, List.set_cons_zero, List.set_cons_succ]
        refine obs_step (Eq.trans (by simp only [List.getElem?_toArray, List.getElem?_cons_succ, List.getElem?_cons_zero]; exact rfl) rfl) rfl (fun w' hS hV K hK => ?_) ?_
        · have e1 : x 1 = (.slice (some ⟨g, o, none⟩) n c9) := hV 1 (by decide)
          have e2 : x 2 = (.int .i64 (i)) := hV 2 (by decide)
          have e3 : x 3 = (.pointer (some ⟨g, o + i, none⟩)) := hV 3 (by decide)
          obtain ⟨q0, q1⟩ := hS.1.two; have q2 := hS.2.2.1; have q3 := hS.2.2.2
          go_simp
          exact hK.out _ _ _ rfl rfl rfl (Below.refl _ _)
        simp only [List.setIfInBounds_toArray, List.set_cons_zero, List.set_cons_succ]
        refine obs_step (Eq.trans (by simp only [List.getElem?_toArray, List.getElem?_cons_succ, List.getElem?_cons_zero]; exact rfl) rfl) rfl (fun w' hS hV K hK => ?_) ?_
        · obtain ⟨q0, q1⟩ := hS.1.two; have q2 := hS.2.2.1; have q3 := hS.2.2.2
          go_simp
          exact hK.out _ _ _ rfl rfl rfl (Below.refl _ _)
        simp only [List.setIfInBounds_toArray, List.set_cons_zero, List.set_cons_succ]
        refine obs_step (Eq.trans (by simp only [List.getElem?_toArray, List.getElem?_cons_succ, List.getElem?_cons_zero]; exact rfl) rfl) rfl (fun w' hS hV K hK => ?_) ?_
        · have e1 : x 1 = (.slice (some ⟨g, o, none⟩) n c9) := hV 1 (by decide)
          have e2 : x 2 = (.int .i64 (i)) := hV 2 (by decide)
          have e3 : x 3 = (.pointer (some ⟨g, o + i, none⟩)) := hV 3 (by decide)
          have e4 : x 4 = (.slice (some ⟨g2, o2, none⟩) n c1) := hV 4 (by decide)
          have e5 : x 5 = (.int .i64 (i)) := hV 5 (by decide)
          obtain ⟨q0, q1⟩ := hS.1.two; have q2 := hS.2.2.1; have q3 := hS.2.2.2
          go_simp
          exact hK.out _ _ _ rfl rfl rfl (Below.refl _ _)
        simp only [List.setIfInBounds_toArray, List.set_cons_zero, List.set_cons_succ]
        refine obs_step (Eq.trans (by simp only [List.getElem?_toArray, List.getElem?_cons_succ, List.getElem?_cons_zero]; exact rfl) rfl) rfl (fun w' hS hV K hK => ?_) ?_
        · have e1 : x 1 = (.slice (some ⟨g, o, none⟩) n c9) := hV 1 (by decide)
          have e2 : x 2 = (.int .i64 (i)) := hV 2 (by decide)
          have e3 : x 3 = (.pointer (some ⟨g, o + i, none⟩)) := hV 3 (by decide)
          have e4 : x 4 = (.slice (some ⟨g2, o2, none⟩) n c1) := hV 4 (by decide)
          have e5 : x 5 = (.int .i64 (i)) := hV 5 (by decide)
          have e6 : x 6 = (.pointer (some ⟨g2, o2 + i, none⟩)) := hV 6 (by decide)
          obtain ⟨q0, q1⟩ := hS.1.two; have q2 := hS.2.2.1; have q3 := hS.2.2.2
          go_simp
          exact hK.out _ _ _ rfl rfl rfl (Below.refl _ _)
        simp only [List.setIfInBounds_toArray, List.set_cons_zero, List.set_cons_succ]
        refine obs_step (Eq.trans (by simp only [List.getElem?_toArray, List.getElem?_cons_succ, List.getElem?_cons_zero]; exact rfl) rfl) rfl (fun w' hS hV K hK => ?_) ?_
        · have e0 : x 0 = (.int .i64 (s)) := hV 0 (by decide)
          have e1 : x 1 = (.slice (some ⟨g, o, none⟩) n c9) := hV 1 (by decide)
          have e2 : x 2 = (.int .i64 (i)) := hV 2 (by decide)
          have e3 : x 3 = (.pointer (some ⟨g, o + i, none⟩)) := hV 3 (by decide)
          have e4 : x 4 = (.slice (some ⟨g2, o2, none⟩) n c1) := hV 4 (by decide)
          have e5 : x 5 = (.int .i64 (i)) := hV 5 (by decide)
          have e6 : x 6 = (.pointer (some ⟨g2, o2 + i, none⟩)) := hV 6 (by decide)
          have e7 : x 7 = (.int .i64 (MM[i][i])) := hV 7 (by decide)
          obtain ⟨q0, q1⟩ := hS.1.two; have q2 := hS.2.2.1; have q3 := hS.2.2.2
          go_simp
          exact hK.out _ _ _ rfl rfl rfl (Below.refl _ _)
        simp only [List.setIfInBounds_toArray, List.set_cons_zero, List.set_cons_succ]
        refine obs_step (Eq.trans (by simp only [List.getElem?_toArray, List.getElem?_cons_succ, List.getElem?_cons_zero]; exact rfl) rfl) rfl (fun w' hS hV K hK => ?_) ?_
        · obtain ⟨q0, q1⟩ := hS.1.two; have q2 := hS.2.2.1; have q3 := hS.2.2.2
          go_simp
          exact hK.out _ _ _ rfl rfl rfl (Below.refl _ _)
        simp only [List.setIfInBounds_toArray, List.set_cons_zero, List.set_cons_succ]
        refine obs_step (Eq.trans (by simp only [List.getElem?_toArray, List.getElem?_cons_succ, List.getElem?_cons_zero]; exact rfl) rfl) rfl (fun w' hS hV K hK => ?_) ?_
        · have e9 : x 9 = (.pointer (some ⟨w.heap.size, 0, none⟩)) := hV 9 (by decide)
          obtain ⟨q0, q1⟩ := hS.1.two; have q2 := hS.2.2.1; have q3 := hS.2.2.2
          go_simp
          exact hK.out _ _ _ rfl rfl rfl (Below.refl _ _)
        simp only [List.setIfInBounds_toArray, List.set_cons_zero, List.set_cons_succ]
        refine obs_step (Eq.trans (by simp only [List.getElem?_toArray, List.getElem?_cons_succ, List.getElem?_cons_zero]; exact rfl) rfl) rfl (fun w' hS hV K hK => ?_) ?_
        · have e0 : x 0 = (.int .i64 (s)) := hV 0 (by decide)
          have e1 : x 1 = (.slice (some ⟨g, o, none⟩) n c9) := hV 1 (by decide)
          have e2 : x 2 = (.int .i64 (i)) := hV 2 (by decide)
          have e3 : x 3 = (.pointer (some ⟨g, o + i, none⟩)) := hV 3 (by decide)
          have e4 : x 4 = (.slice (some ⟨g2, o2, none⟩) n c1) := hV 4 (by decide)
          have e5 : x 5 = (.int .i64 (i)) := hV 5 (by decide)
          have e6 : x 6 = (.pointer (some ⟨g2, o2 + i, none⟩)) := hV 6 (by decide)
          have e7 : x 7 = (.int .i64 (MM[i][i])) := hV 7 (by decide)
          have e8 : x 8 = (.int .i64 (s + MM[i][i])) := hV 8 (by decide)
          have e9 : x 9 = (.pointer (some ⟨w.heap.size, 0, none⟩)) := hV 9 (by decide)
          have e10 : x 10 = (.int .i64 (P)) := hV 10 (by decide)
          obtain ⟨q0, q1⟩ := hS.1.two; have q2 := hS.2.2.1; have q3 := hS.2.2.2
          go_simp
          exact hK.out _ _ _ rfl rfl rfl (Below.refl _ _)
        simp only [List.setIfInBounds_toArray, List.set_cons_zero, List.set_cons_succ]
        refine fun w' hS hV => ?_
        have e0 : x 0 = (.int .i64 (s)) := hV 0 (by decide)
        have e1 : x 1 = (.slice (some ⟨g, o, none⟩) n c9) := hV 1 (by decide)
        have e2 : x 2 = (.int .i64 (i)) := hV 2 (by decide)
        have e3 : x 3 = (.pointer (some ⟨g, o + i, none⟩)) := hV 3 (by decide)
        have e4 : x 4 = (.slice (some ⟨g2, o2, none⟩) n c1) := hV 4 (by decide)
        have e5 : x 5 = (.int .i64 (i)) := hV 5 (by decide)
        have e6 : x 6 = (.pointer (some ⟨g2, o2 + i, none⟩)) := hV 6 (by decide)
        have e7 : x 7 = (.int .i64 (MM[i][i])) := hV 7 (by decide)
        have e8 : x 8 = (.int .i64 (s + MM[i][i])) := hV 8 (by decide)
        have e9 : x 9 = (.pointer (some ⟨w.heap.size, 0, none⟩)) := hV 9 (by decide)
        have e10 : x 10 = (.int .i64 (P)) := hV 10 (by decide)
        have e11 : x 11 = (.int .i64 ((s + MM[i][i]) % P)) := hV 11 (by decide)
        simp only [e0, e1, e2, e3, e4, e5, e6, e7, e8, e9, e10, e11]
        clear e0 e1 e2 e3 e4 e5 e6 e7 e8 e9 e10 e11
        refine any_one (j := 12) (by kernel_rfl) (Eq.trans (by simp only [List.getElem?_toArray, List.getElem?_cons_succ, List.getElem?_cons_zero]; exact rfl) rfl) (fun K hK => ?_)
        go_simp
        refine hK.out _ _ (wpAny_done (by kernel_rfl) ?_ _)
        have k5 := hS.1
        have hB5 := hS.2.1
        go_wp2
        go_roundw
        case rel => exact ⟨i + 1, by omega, by go_num, by rw [HV.out], k5, hB5⟩
        case measure => simp [intOf]; omega
      · go_wp2
        go_ret2
        exact ⟨ret_ii (by rw [kfR_ok HR0.out, HSL.out, ← HMM.out, hend.out (by omega)]), hB3.trans (hB4.mono hB3.size)⟩
  · obtain ⟨r, hr⟩ : ∃ r, r = codeB P sq [xs, ys] := ⟨_, rfl⟩
    have HR := Lib.hid hr
    have HR0 := Lib.hid hr0
    have b0 : (r != 0) = true := code_ne (by rw [hr]; exact hr0)
    rw [← hr] at hreg
    clear hr hr0
    go_enter Tryz.func32, Tryz.ntmps32
    go_wp2_with fail
    refine hreg.mono ?_
    rintro e w2 ⟨rfl, hb2⟩
    have hB2 := hB1.trans (hb2.mono hB1.size)
    have k2 := k1.below hb2 k1.lt
    obtain ⟨q0, q1⟩ := k2.two
    clear k0 hB0 k1 hB1 hb2
    go_wp2
    go_ret2
    exact ⟨ret_ii (by rw [kfR_bad HR0.out, HR.out]), hB2⟩

end Go.Proofs.YtgfgnpdnppggeaaGreat
