/-
  TurnVector: both sides return the same.
-/
import Derived.Test.YtgfgnpdnppggeaaGreatTurn2
namespace Go.Proofs.YtgfgnpdnppggeaaGreat
open Go.RowKit

/-- TurnVector. -/
def tvR (P : Int) (sq xs v : List Int) : List Int × Int :=
  if codeM P sq [xs] = 0 then (if isVe P sq v then (if codeB P sq [xs] = 0 then (turnL P sq sq.length xs v, 0) else ([], codeB P sq [xs])) else ([], 2)) else ([], codeM P sq [xs])
theorem tvR_ok {P : Int} {sq xs v : List Int} (h : codeM P sq [xs] = 0) (h1 : isVe P sq v = true) (h2 : codeB P sq [xs] = 0) : tvR P sq xs v = (turnL P sq sq.length xs v, 0) := by unfold tvR; rw [if_pos h, if_pos h1, if_pos h2]
theorem tvR_b {P : Int} {sq xs v : List Int} (h : codeM P sq [xs] = 0) (h1 : isVe P sq v = true) (h2 : ¬ codeB P sq [xs] = 0) : tvR P sq xs v = ([], codeB P sq [xs]) := by unfold tvR; rw [if_pos h, if_pos h1, if_neg h2]
theorem tvR_ve {P : Int} {sq xs v : List Int} (h : codeM P sq [xs] = 0) (h1 : isVe P sq v = false) : tvR P sq xs v = ([], 2) := by unfold tvR; rw [if_pos h, h1]; rfl
theorem tvR_m {P : Int} {sq xs v : List Int} (h : ¬ codeM P sq [xs] = 0) : tvR P sq xs v = ([], codeM P sq [xs]) := by unfold tvR; rw [if_neg h]
theorem tvR_len {P : Int} {sq xs v : List Int} (h : sq.length ≤ 1048576) : (tvR P sq xs v).1.length ≤ 1048576 := by
  unfold tvR
  split
  · split
    · split
      · rw [turnL_len]; exact h
      · simp
    · simp
  · simp
theorem isVe_spec2 {P : Int} {sq ys : List Int} (h : isVe P sq ys = true) : ys.length = sq.length ∧ NumsL P ys := by
  unfold isVe at h
  simp only [Bool.and_eq_true, beq_iff_eq] at h
  exact ⟨by have := h.1; omega, nums_numsL h.2⟩
theorem codeV_one {P : Int} {sq xs ys : List Int} (h : codeM P sq [xs] = 0) : codeV P sq [ys] = if isVe P sq ys then 0 else 2 := by
  unfold codeV
  rw [(codeM_sp h).1, if_pos rfl]
  cases h2 : isVe P sq ys <;> simp [h2]
/-- What the code of the program's check says. -/
theorem codeVs_zero2 {P : Int} {sq xs v : List Int} (h : codeVs P sq [xs] [v] = 0) : codeM P sq [xs] = 0 ∧ isVe P sq v = true ∧ codeR P sq [xs] = 0 := by
  unfold codeVs at h
  by_cases h1 : codeM P sq [xs] = 0
  · rw [if_pos h1, codeV_one h1] at h
    cases h3 : isVe P sq v
    · rw [h3] at h; simp at h
    · rw [h3, if_pos rfl, if_pos rfl] at h
      exact ⟨h1, rfl, by unfold codeR; rw [if_pos h1]; exact h⟩
  · rw [if_neg h1] at h; exact absurd h h1
theorem codeVs_bad2 {P : Int} {sq xs v : List Int} (h : ¬ codeVs P sq [xs] [v] = 0) : tvR P sq xs v = ([], codeVs P sq [xs] [v]) := by
  by_cases h1 : codeM P sq [xs] = 0
  · cases h2 : isVe P sq v
    · rw [tvR_ve h1 h2]
      have : codeVs P sq [xs] [v] = 2 := by unfold codeVs; rw [if_pos h1, codeV_one h1, h2]; rfl
      rw [this]
    · have h4 : codeVs P sq [xs] [v] = codeR P sq [xs] := by unfold codeVs codeR; rw [if_pos h1, codeV_one h1, h2, if_pos rfl, if_pos rfl, if_pos h1]
      rw [h4] at h ⊢
      rw [tvR_b h1 h2 (by rw [codeB_ne h]; exact h), codeB_ne h]
  · rw [tvR_m h1]
    have : codeVs P sq [xs] [v] = codeM P sq [xs] := by unfold codeVs; rw [if_neg h1]
    rw [this]
theorem codeB_5 {P : Int} {sq xs : List Int} (h : codeR P sq [xs] = 0) (hb : onlyL xs 2 = false) : codeB P sq [xs] = 5 := codeB_bad h (by simp) hb
theorem codeB_0 {P : Int} {sq xs : List Int} (h : codeR P sq [xs] = 0) (hb : onlyL xs 2 = true) : codeB P sq [xs] = 0 := codeB_good h (by simp [hb])
/-- An ending with no list. -/
theorem noListT {w w' : World} {R : List Int × Int} {x : Int} (hR : R = ([], x)) (hB : Below w.heap.size w w') :
    ∃ (A' : Option Addr) (k c' : Nat), Ending.returned (.tuple #[.slice none 0 0, .int .i64 x]) = .returned (.tuple #[.slice A' k c', .int .i64 R.2]) ∧ MkI w w' A' k c' R.1 := by
  subst hR
  exact ⟨none, 0, 0, rfl, Mk.nil hB⟩
/-- An ending with a list. -/
theorem aListT {w w' : World} {R : List Int × Int} {A : Option Addr} {k c : Nat} {L : List Int} {x : Int} (hR : R = (L, x)) (hM : MkI w w' A k c L) :
    ∃ (A' : Option Addr) (k' c' : Nat), Ending.returned (.tuple #[.slice A k c, .int .i64 x]) = .returned (.tuple #[.slice A' k' c', .int .i64 R.2]) ∧ MkI w w' A' k' c' R.1 := by
  subst hR
  exact ⟨_, _, _, rfl, hM⟩

set_option maxHeartbeats 1600000 in
set_option maxRecDepth 8000 in
theorem TurnVector_any (P : Int) (A : Option Addr) (n c : Nat) (sq : List Int) (X : Option Addr) (m cx : Nat) (xs : List Int) (Y : Option Addr) (l cy : Nat) (ys : List Int) (w : World) (hn : n ≤ 1048576) (hm : m ≤ 1048576) (hl : l ≤ 1048576) (ha : Rd w A n (ints sq)) (hx : Rd w X m (ints xs)) (hcx : m ≤ cx) (hy : Rd w Y l (ints ys)) (hcy : l ≤ cy) :
    Calls Tryz.prog 23 #[.agg #[.int .i64 P, .slice A n c], .slice X m cx, .slice Y l cy] w fun e w' => ∃ (A' : Option Addr) (k c' : Nat), e = .returned (.tuple #[.slice A' k c', .int .i64 (tvR P sq xs ys).2]) ∧ MkI w w' A' k c' (tvR P sq xs ys).1 := by
  have hB0 : Below w.heap.size w (w.alloc (.cells #[.int .i64 P, .slice A n c] 28)) := (Below.refl _ _).alloc (Nat.le_refl _) _
  have k0 : Blk (w.alloc (.cells #[.int .i64 P, .slice A n c] 28)) w.heap.size 28 #[.int .i64 P, .slice A n c] := Blk.new _ _ _
  have hB1 : Below w.heap.size w (((w.alloc (.cells #[.int .i64 P, .slice A n c] 28)).alloc (.cells #[.slice X m cx] 22)).alloc (.cells #[.slice Y l cy] 22)) := (hB0.alloc (by simp) _).alloc (by simp; omega) _
  have k1 : Blk (((w.alloc (.cells #[.int .i64 P, .slice A n c] 28)).alloc (.cells #[.slice X m cx] 22)).alloc (.cells #[.slice Y l cy] 22)) w.heap.size 28 #[.int .i64 P, .slice A n c] := (k0.alloc _).alloc _
  have hreg := checkVersors_any P A (some ⟨w.heap.size + 1, 0, none⟩) (some ⟨w.heap.size + 2, 0, none⟩) n c 1 1 1 1 sq [xs] [ys] (((w.alloc (.cells #[.int .i64 P, .slice A n c] 28)).alloc (.cells #[.slice X m cx] 22)).alloc (.cells #[.slice Y l cy] 22)) hn (by omega) (by omega) (ha.below hB1) (rdII_one' ((Blk.newAt (by simp)).alloc _) (hx.below hB1) hcx) (all_one (by rw [hx.lenI]; exact hm)) (rdII_one' (Blk.newAt (by simp)) (hy.below hB1) hcy) (all_one (by rw [hy.lenI]; exact hl))
  by_cases hr0 : codeVs P sq [xs] [ys] = 0
  · skip
    obtain ⟨hcM, hve, hcR⟩ := codeVs_zero2 hr0
    have HCM := Lib.hid hcM
    have HVE := Lib.hid hve
    have HCR := Lib.hid hcR
    rw [hr0] at hreg
    clear hr0
    obtain ⟨HP, hp3, hp2, hd1, hd2, hs0, hms⟩ := codeM_spec2 hcM
    have hsl := ha.lenI
    obtain ⟨hx1, hxs0⟩ := hms xs (by simp)
    obtain ⟨hy1, hys0⟩ := isVe_spec2 hve
    have hmx : m = pw n := by rw [← hx.lenI, hx1, hsl]
    have hly : n = l := by rw [← hy.lenI, hy1, hsl]
    subst hmx
    subst hly
    have hn6 : n ≤ 6 := by omega
    have hn0 : 0 < n := by omega
    have HSL := Lib.hid hsl
    have HS0 := Lib.hid hs0
    have HXS := Lib.hid hxs0
    have HYS := Lib.hid hys0
    have HXL := Lib.hid hx.lenI
    have HYL := Lib.hid hy.lenI
    have hp : 2 ≤ P := by omega
    clear hsl hms hx1 hy1 hs0 hxs0 hys0 hd1 hd2
    clear hcM hve hcR
    cases hb : onlyL xs 2
    · have HBV := Lib.hid hb
      clear hb
      go_enter Tryz.func23, Tryz.ntmps23
      go_wp2_with fail
      refine (hreg).mono ?_
      rintro e w2 ⟨rfl, hb2⟩
      have hB2 := hB1.trans (hb2.mono hB1.size)
      have k2 := k1.below hb2 k1.lt
      obtain ⟨q0, q1⟩ := k2.two
      clear k0 hB0 k1 hB1 hb2
      clear hn
      have hn := hn6
      have hs := HS0.out
      have hxs := HXS.out
      have hys := HYS.out
      have HPW : pw n ≤ 65536 := Nat.le_trans (pw_le (show n ≤ 10 by omega)) (by decide)
      have HPW64 : pw n ≤ 64 := pw_le hn
      go_wp2_with fail
      refine (isBivector_any X (pw n) cx xs _ HPW64 (hx.below hB2)).mono ?_
      rintro e w3 ⟨rfl, hb3⟩
      rw [HBV.out]
      clear q0 q1
      have hB3 := hB2.trans (hb3.mono hB2.size)
      have k3 := k2.below hb3 k2.lt
      obtain ⟨q0, q1⟩ := k3.two
      go_wp2
      go_ret2
      exact noListT (by rw [tvR_b HCM.out HVE.out (by rw [codeB_5 HCR.out HBV.out]; decide), codeB_5 HCR.out HBV.out]) hB3
    · have HBV := Lib.hid hb
      clear hb
      go_enter Tryz.func23, Tryz.ntmps23
      go_wp2_with fail
      refine (hreg).mono ?_
      rintro e w2 ⟨rfl, hb2⟩
      have hB2 := hB1.trans (hb2.mono hB1.size)
      have k2 := k1.below hb2 k1.lt
      obtain ⟨q0, q1⟩ := k2.two
      clear k0 hB0 k1 hB1 hb2
      clear hn
      have hn := hn6
      have hs := HS0.out
      have hxs := HXS.out
      have hys := HYS.out
      have HPW : pw n ≤ 65536 := Nat.le_trans (pw_le (show n ≤ 10 by omega)) (by decide)
      have HPW64 : pw n ≤ 64 := pw_le hn
      go_wp2_with fail
      refine (isBivector_any X (pw n) cx xs _ HPW64 (hx.below hB2)).mono ?_
      rintro e w3 ⟨rfl, hb3⟩
      rw [HBV.out]
      clear q0 q1
      have hB3 := hB2.trans (hb3.mono hB2.size)
      have k3 := k2.below hb3 k2.lt
      obtain ⟨q0, q1⟩ := k3.two
      have HTT : Tab P n (transL (colsL P sq n xs)) := by
        have := transL_tab (show 0 < P by omega) (colsL_tab hp sq n xs)
        rwa [colsL_len] at this
      go_wp2
      refine wp_obs 9 [[], [0], [], [], [2, 3], [], [0, 1, 2, 3, 4, 5], [0, 1, 2, 3, 4, 5, 6], []] [VIs (.agg #[.int .i64 P, .slice A n c]), VIs (.int .i64 P), VIs (.agg #[.int .i64 P, .slice A n c]), VIs (.slice X (pw n) cx), VMat w (n) (transL (colsL P sq n xs)), VIs (.slice Y n cy), VSl w (n) (applyL P (transL (colsL P sq n xs)) ys), VSl w (n) (applyL P (transL (colsL P sq n xs)) ys), VIs (.int .i64 0)] (fun w' => Blk w' w.heap.size 28 #[.int .i64 P, .slice A n c] ∧ Below w.heap.size w w') (by kernel_rfl) (by kernel_rfl) (fun _ _ h hb => ⟨h.1.below hb h.1.lt, h.2.trans (hb.mono h.2.size)⟩) (⟨k3.drew, hB3.drew⟩) (fun x => ?_)
      refine obs_step (Eq.trans (by simp only [List.getElem?_toArray, List.getElem?_cons_zero]; exact rfl) rfl) rfl (fun w' hS hV K hK => ?_) ?_
      · obtain ⟨q0, q1⟩ := hS.1.two
        go_simp
        exact hK.out _ _ _ rfl rfl rfl (Below.refl _ _)
      simp only [List.setIfInBounds_toArray, List.set_cons_zero, List.set_cons_succ]
      refine obs_step (Eq.trans (by simp only [List.getElem?_toArray, List.getElem?_cons_succ, List.getElem?_cons_zero]; exact rfl) rfl) rfl (fun w' hS hV K hK => ?_) ?_
      · have e0 : x 0 = (.agg #[.int .i64 P, .slice A n c]) := hV 0 (by decide)
        obtain ⟨q0, q1⟩ := hS.1.two
        go_simp
        refine (field_any _ _ _ _ _).mono ?_
        rintro e w1 ⟨rfl, hb⟩
        exact hK.out _ _ _ rfl rfl rfl hb
      simp only [List.setIfInBounds_toArray, List.set_cons_zero, List.set_cons_succ]
      refine obs_step (Eq.trans (by simp only [List.getElem?_toArray, List.getElem?_cons_succ, List.getElem?_cons_zero]; exact rfl) rfl) rfl (fun w' hS hV K hK => ?_) ?_
      · obtain ⟨q0, q1⟩ := hS.1.two
        go_simp
        exact hK.out _ _ _ rfl rfl rfl (Below.refl _ _)
      simp only [List.setIfInBounds_toArray, List.set_cons_zero, List.set_cons_succ]
      refine obs_step (Eq.trans (by simp only [List.getElem?_toArray, List.getElem?_cons_succ, List.getElem?_cons_zero]; exact rfl) rfl) rfl (fun w' hS hV K hK => ?_) ?_
      · obtain ⟨q0, q1⟩ := hS.1.two
        go_simp
        exact hK.out _ _ _ rfl rfl rfl (Below.refl _ _)
      simp only [List.setIfInBounds_toArray, List.set_cons_zero, List.set_cons_succ]
      refine obs_step (Eq.trans (by simp only [List.getElem?_toArray, List.getElem?_cons_succ, List.getElem?_cons_zero]; exact rfl) rfl) rfl (fun w' hS hV K hK => ?_) ?_
      · have e2 : x 2 = (.agg #[.int .i64 P, .slice A n c]) := hV 2 (by decide)
        have e3 : x 3 = (.slice X (pw n) cx) := hV 3 (by decide)
        obtain ⟨q0, q1⟩ := hS.1.two
        go_simp
        refine (turning_any P A n c sq X cx xs _ hp hp2 hn hn0 (ha.below hS.2) hs (hx.below hS.2) hxs hcx HP).mono ?_
        rintro e w1 ⟨A2, c2, rfl, hM⟩
        exact hK.out _ _ _ rfl rfl ⟨_, _, rfl, hM.after hS.2⟩ hM.b
      simp only [List.setIfInBounds_toArray, List.set_cons_zero, List.set_cons_succ]
      refine obs_step (Eq.trans (by simp only [List.getElem?_toArray, List.getElem?_cons_succ, List.getElem?_cons_zero]; exact rfl) rfl) rfl (fun w' hS hV K hK => ?_) ?_
      · obtain ⟨q0, q1⟩ := hS.1.two
        go_simp
        exact hK.out _ _ _ rfl rfl rfl (Below.refl _ _)
      simp only [List.setIfInBounds_toArray, List.set_cons_zero, List.set_cons_succ]
      refine obs_step (Eq.trans (by simp only [List.getElem?_toArray, List.getElem?_cons_succ, List.getElem?_cons_zero]; exact rfl) rfl) rfl (fun w' hS hV K hK => ?_) ?_
      · have e0 : x 0 = (.agg #[.int .i64 P, .slice A n c]) := hV 0 (by decide)
        have e1 : x 1 = (.int .i64 P) := hV 1 (by decide)
        have e2 : x 2 = (.agg #[.int .i64 P, .slice A n c]) := hV 2 (by decide)
        have e3 : x 3 = (.slice X (pw n) cx) := hV 3 (by decide)
        obtain ⟨A4, c4, e4, h4⟩ := hV 4 (by decide)
        have e5 : x 5 = (.slice Y n cy) := hV 5 (by decide)
        obtain ⟨q0, q1⟩ := hS.1.two
        go_simp
        refine (apply_any P _ n _ (transL (colsL P sq n xs)) Y n cy ys _ hp hp2 (by omega) (by omega) h4.rd HTT (hy.below hS.2) hys).mono ?_
        rintro e w1 ⟨A2, c2, rfl, hM⟩
        exact hK.out _ _ _ rfl rfl ⟨_, _, rfl, hM.after hS.2⟩ hM.b
      simp only [List.setIfInBounds_toArray, List.set_cons_zero, List.set_cons_succ]
      refine obs_step (Eq.trans (by simp only [List.getElem?_toArray, List.getElem?_cons_succ, List.getElem?_cons_zero]; exact rfl) rfl) rfl (fun w' hS hV K hK => ?_) ?_
      · have e0 : x 0 = (.agg #[.int .i64 P, .slice A n c]) := hV 0 (by decide)
        have e1 : x 1 = (.int .i64 P) := hV 1 (by decide)
        have e2 : x 2 = (.agg #[.int .i64 P, .slice A n c]) := hV 2 (by decide)
        have e3 : x 3 = (.slice X (pw n) cx) := hV 3 (by decide)
        obtain ⟨A4, c4, e4, h4⟩ := hV 4 (by decide)
        have e5 : x 5 = (.slice Y n cy) := hV 5 (by decide)
        obtain ⟨A6, c6, e6, h6⟩ := hV 6 (by decide)
        obtain ⟨q0, q1⟩ := hS.1.two
        go_simp
        exact hK.out _ _ _ rfl rfl ⟨_, _, rfl, h6⟩ (Below.refl _ _)
      simp only [List.setIfInBounds_toArray, List.set_cons_zero, List.set_cons_succ]
      refine obs_step (Eq.trans (by simp only [List.getElem?_toArray, List.getElem?_cons_succ, List.getElem?_cons_zero]; exact rfl) rfl) rfl (fun w' hS hV K hK => ?_) ?_
      · obtain ⟨q0, q1⟩ := hS.1.two
        go_simp
        exact hK.out _ _ _ rfl rfl rfl (Below.refl _ _)
      simp only [List.setIfInBounds_toArray, List.set_cons_zero, List.set_cons_succ]
      refine fun w' hS hV => ?_
      have e0 : x 0 = (.agg #[.int .i64 P, .slice A n c]) := hV 0 (by decide)
      have e1 : x 1 = (.int .i64 P) := hV 1 (by decide)
      have e2 : x 2 = (.agg #[.int .i64 P, .slice A n c]) := hV 2 (by decide)
      have e3 : x 3 = (.slice X (pw n) cx) := hV 3 (by decide)
      obtain ⟨A4, c4, e4, h4⟩ := hV 4 (by decide)
      have e5 : x 5 = (.slice Y n cy) := hV 5 (by decide)
      obtain ⟨A6, c6, e6, h6⟩ := hV 6 (by decide)
      obtain ⟨A7, c7, e7, h7⟩ := hV 7 (by decide)
      have e8 : x 8 = (.int .i64 0) := hV 8 (by decide)
      simp only [e0, e1, e2, e3, e4, e5, e6, e7, e8]
      clear e0 e1 e2 e3 e4 e5 e6 e7 e8
      refine wpAny_done (by kernel_rfl) ?_ _
      go_wp2
      go_ret2
      exact aListT (by rw [tvR_ok HCM.out HVE.out (codeB_0 HCR.out HBV.out), HSL.out, apply_turn HXL.out hxs hp hn0 HYL.out hys]) h7
  · obtain ⟨r, hr⟩ : ∃ r, r = codeVs P sq [xs] [ys] := ⟨_, rfl⟩
    have HR := Lib.hid hr
    have HR0 := Lib.hid hr0
    have b0 : (r != 0) = true := code_ne (by rw [hr]; exact hr0)
    rw [← hr] at hreg
    clear hr hr0
    go_enter Tryz.func23, Tryz.ntmps23
    go_wp2_with fail
    refine (hreg).mono ?_
    rintro e w2 ⟨rfl, hb2⟩
    have hB2 := hB1.trans (hb2.mono hB1.size)
    have k2 := k1.below hb2 k1.lt
    obtain ⟨q0, q1⟩ := k2.two
    clear k0 hB0 k1 hB1 hb2
    go_wp2
    go_ret2
    exact noListT (by rw [codeVs_bad2 HR0.out, HR.out]) hB2

set_option maxHeartbeats 1600000 in
set_option maxRecDepth 8000 in
theorem specTurnVector_any (P : Int) (A : Option Addr) (n c : Nat) (sq : List Int) (X : Option Addr) (m cx : Nat) (xs : List Int) (Y : Option Addr) (l cy : Nat) (ys : List Int) (w : World) (hn : n ≤ 1048576) (hm : m ≤ 1048576) (hl : l ≤ 1048576) (ha : Rd w A n (ints sq)) (hx : Rd w X m (ints xs)) (hcx : m ≤ cx) (hy : Rd w Y l (ints ys)) (hcy : l ≤ cy) :
    Calls Tryz.prog 22 #[.agg #[.int .i64 P, .slice A n c], .slice X m cx, .slice Y l cy] w fun e w' => ∃ (A' : Option Addr) (k c' : Nat), e = .returned (.tuple #[.slice A' k c', .int .i64 (tvR P sq xs ys).2]) ∧ MkI w w' A' k c' (tvR P sq xs ys).1 := by
  have hB0 : Below w.heap.size w (w.alloc (.cells #[.int .i64 P, .slice A n c] 28)) := (Below.refl _ _).alloc (Nat.le_refl _) _
  have k0 : Blk (w.alloc (.cells #[.int .i64 P, .slice A n c] 28)) w.heap.size 28 #[.int .i64 P, .slice A n c] := Blk.new _ _ _
  have hB1 : Below w.heap.size w ((w.alloc (.cells #[.int .i64 P, .slice A n c] 28)).alloc (.cells #[.slice X m cx] 22)) := hB0.alloc (by simp) _
  have k1 : Blk ((w.alloc (.cells #[.int .i64 P, .slice A n c] 28)).alloc (.cells #[.slice X m cx] 22)) w.heap.size 28 #[.int .i64 P, .slice A n c] := k0.alloc _
  have hreg := l04Code_any P A (some ⟨w.heap.size + 1, 0, none⟩) n c 1 1 sq [xs] ((w.alloc (.cells #[.int .i64 P, .slice A n c] 28)).alloc (.cells #[.slice X m cx] 22)) hn (by omega) (ha.below hB1) (rdII_one' (Blk.newAt (by simp)) (hx.below hB1) hcx) (all_one (by rw [hx.lenI]; exact hm))
  by_cases hr0 : codeM P sq [xs] = 0
  · skip
    rw [hr0] at hreg
    have HCM := Lib.hid hr0
    have hnP : 2 ≤ P ∧ P ≤ 13 ∧ sq.length = n := by
      obtain ⟨_, h2, h3, _⟩ := codeM_spec2 hr0
      exact ⟨by omega, h3, ha.lenI⟩
    obtain ⟨hp, hp2, hsl⟩ := hnP
    have hvs := fun w' (hb : Below w.heap.size w w') => l03Vector_any P A Y n c l cy sq ys w' hn hsl hl (by omega) hp2 (hy.below hb)
    have hbv := fun w' (hb : Below w.heap.size w w') => l10Code_any P A (some ⟨w'.heap.size, 0, none⟩) n c 1 1 sq [xs] (w'.alloc (.cells #[.slice X m cx] 22)) hn (by omega) (ha.below (hb.alloc hb.size _)) (rdII_one' (Blk.newAt rfl) (hx.below (hb.alloc hb.size _)) hcx) (all_one (by rw [hx.lenI]; exact hm))
    clear hr0 hsl
    cases hve : isVe P sq ys
    · have HVE := Lib.hid hve
      clear hve
      go_enter Tryz.func22, Tryz.ntmps22
      go_wp2_with fail
      refine (hreg).mono ?_
      rintro e w2 ⟨rfl, hb2⟩
      have hB2 := hB1.trans (hb2.mono hB1.size)
      have k2 := k1.below hb2 k1.lt
      obtain ⟨q0, q1⟩ := k2.two
      clear k0 hB0 k1 hB1 hb2
      go_wp2_with fail
      refine (hvs _ hB2).mono ?_
      rintro e w3 ⟨rfl, hb3⟩
      rw [HVE.out]
      clear q0 q1
      have hB3 := hB2.trans (hb3.mono hB2.size)
      have k3 := k2.below hb3 k2.lt
      obtain ⟨q0, q1⟩ := k3.two
      go_wp2
      go_ret2
      exact noListT (tvR_ve HCM.out HVE.out) hB3
    · have HVE := Lib.hid hve
      obtain ⟨r, hr⟩ : ∃ r, r = codeB P sq [xs] := ⟨_, rfl⟩
      have HR := Lib.hid hr
      by_cases hr1 : r = 0
      · have hcM := HCM.out
        clear hp hp2
        obtain ⟨HP, hp3, hp2, hd1, hd2, hs0, hms⟩ := codeM_spec2 hcM
        have hsl := ha.lenI
        obtain ⟨hx1, hxs0⟩ := hms xs (by simp)
        obtain ⟨hy1, hys0⟩ := isVe_spec2 hve
        have hmx : m = pw n := by rw [← hx.lenI, hx1, hsl]
        have hly : n = l := by rw [← hy.lenI, hy1, hsl]
        subst hmx
        subst hly
        have hn6 : n ≤ 6 := by omega
        have hn0 : 0 < n := by omega
        have HSL := Lib.hid hsl
        have HS0 := Lib.hid hs0
        have HXS := Lib.hid hxs0
        have HYS := Lib.hid hys0
        have HXL := Lib.hid hx.lenI
        have HYL := Lib.hid hy.lenI
        have hp : 2 ≤ P := by omega
        clear hsl hms hx1 hy1 hs0 hxs0 hys0 hd1 hd2
        have HR1 := Lib.hid (hr.symm.trans hr1)
        subst hr1
        clear hr hve hcM
        go_enter Tryz.func22, Tryz.ntmps22
        go_wp2_with fail
        refine (hreg).mono ?_
        rintro e w2 ⟨rfl, hb2⟩
        have hB2 := hB1.trans (hb2.mono hB1.size)
        have k2 := k1.below hb2 k1.lt
        obtain ⟨q0, q1⟩ := k2.two
        clear k0 hB0 k1 hB1 hb2
        go_wp2_with fail
        refine (hvs _ hB2).mono ?_
        rintro e w3 ⟨rfl, hb3⟩
        rw [HVE.out]
        clear q0 q1
        have hB3 := hB2.trans (hb3.mono hB2.size)
        have k3 := k2.below hb3 k2.lt
        obtain ⟨q0, q1⟩ := k3.two
        go_wp2_with fail
        refine (hbv _ hB3).mono ?_
        rintro e w4 ⟨rfl, hb4⟩
        rw [← HR.out]
        clear q0 q1
        have hB3a := hB3.alloc hB3.size (.cells #[.slice X (pw n) cx] 22)
        have k3a := k3.alloc (.cells #[.slice X (pw n) cx] 22)
        have hB4 := hB3a.trans (hb4.mono hB3a.size)
        have k4 := k3a.below hb4 k3a.lt
        obtain ⟨q0, q1⟩ := k4.two
        go_wp2_with fail
        refine (l10Turn_any P A n c sq X cx xs Y cy ys _ hp hp2 hn6 (ha.below hB4) HS0.out (hx.below hB4) HXS.out (hy.below hB4) HYS.out HP).mono ?_
        rintro e w5 ⟨A5, c5, rfl, hM⟩
        go_wp2
        go_ret2
        exact aListT (by rw [tvR_ok HCM.out HVE.out HR1.out, HSL.out]) (hM.after hB4)
      · have HR1 := Lib.hid hr1
        have b0 : (r != 0) = true := code_ne hr1
        clear hr hr1 hve
        go_enter Tryz.func22, Tryz.ntmps22
        go_wp2_with fail
        refine (hreg).mono ?_
        rintro e w2 ⟨rfl, hb2⟩
        have hB2 := hB1.trans (hb2.mono hB1.size)
        have k2 := k1.below hb2 k1.lt
        obtain ⟨q0, q1⟩ := k2.two
        clear k0 hB0 k1 hB1 hb2
        go_wp2_with fail
        refine (hvs _ hB2).mono ?_
        rintro e w3 ⟨rfl, hb3⟩
        rw [HVE.out]
        clear q0 q1
        have hB3 := hB2.trans (hb3.mono hB2.size)
        have k3 := k2.below hb3 k2.lt
        obtain ⟨q0, q1⟩ := k3.two
        go_wp2_with fail
        refine (hbv _ hB3).mono ?_
        rintro e w4 ⟨rfl, hb4⟩
        rw [← HR.out]
        clear q0 q1
        have hB3a := hB3.alloc hB3.size (.cells #[.slice X m cx] 22)
        have k3a := k3.alloc (.cells #[.slice X m cx] 22)
        have hB4 := hB3a.trans (hb4.mono hB3a.size)
        have k4 := k3a.below hb4 k3a.lt
        obtain ⟨q0, q1⟩ := k4.two
        go_wp2
        go_ret2
        exact noListT (by rw [tvR_b HCM.out HVE.out (by rw [← HR.out]; exact HR1.out), HR.out]) hB4
  · obtain ⟨r, hr⟩ : ∃ r, r = codeM P sq [xs] := ⟨_, rfl⟩
    have HR := Lib.hid hr
    have HR0 := Lib.hid hr0
    have b0 : (r != 0) = true := code_ne (by rw [hr]; exact hr0)
    have b0' : (r == 0) = false := by rw [hr]; simp [hr0]
    rw [← hr] at hreg
    clear hr hr0
    go_enter Tryz.func22, Tryz.ntmps22
    go_wp2_with fail
    refine (hreg).mono ?_
    rintro e w2 ⟨rfl, hb2⟩
    have hB2 := hB1.trans (hb2.mono hB1.size)
    have k2 := k1.below hb2 k1.lt
    obtain ⟨q0, q1⟩ := k2.two
    go_wp2
    go_ret2
    exact noListT (by rw [tvR_m HR0.out, HR.out]) hB2

end Go.Proofs.YtgfgnpdnppggeaaGreat
