/-
  Brackets of bivectors that a user calls: both sides return the same.
-/
import Derived.Test.YtgfgnpdnppggeaaBiv
namespace Go.Proofs.Ytgfgnpdnppggeaa
open Go.RowKit

/-- BivectorBracket. -/
def bbrR (P : Int) (sq xs ys : List Int) : List Int × Int := if codeB P sq [xs, ys] = 0 then (halfL P (brkL P sq sq.length xs ys), 0) else ([], codeB P sq [xs, ys])
theorem bbrR_ok {P : Int} {sq xs ys : List Int} (h : codeB P sq [xs, ys] = 0) : bbrR P sq xs ys = (halfL P (brkL P sq sq.length xs ys), 0) := by unfold bbrR; rw [if_pos h]
theorem bbrR_bad {P : Int} {sq xs ys : List Int} (h : ¬ codeB P sq [xs, ys] = 0) : bbrR P sq xs ys = ([], codeB P sq [xs, ys]) := by unfold bbrR; rw [if_neg h]
theorem bbrR_len {P : Int} {sq xs ys : List Int} : (bbrR P sq xs ys).1.length ≤ 1048576 := by
  by_cases h : codeB P sq [xs, ys] = 0
  · obtain ⟨_, _, _, _, h6, _, _⟩ := codeM_spec2 (codeR_zero2 (codeB_zero h))
    rw [bbrR_ok h]
    show (halfL P (brkL P sq sq.length xs ys)).length ≤ 1048576
    unfold halfL
    rw [scaleL_len, brkL_len]
    have : pw sq.length ≤ 64 := pw_le h6
    omega
  · rw [bbrR_bad h]; simp
/-- An ending with no list. -/
theorem noList {w w' : World} {R : List Int × Int} {x : Int} (hR : R = ([], x)) (hB : Below w.heap.size w w') :
    ∃ (A' : Option Addr) (k c' : Nat), Ending.returned (.tuple #[.slice none 0 0, .int .i64 x]) = .returned (.tuple #[.slice A' k c', .int .i64 R.2]) ∧ MkI w w' A' k c' R.1 := by
  subst hR
  exact ⟨none, 0, 0, rfl, Mk.nil hB⟩
/-- An ending with a list. -/
theorem aList {w w' : World} {R : List Int × Int} {A : Option Addr} {k c : Nat} {L : List Int} {x : Int} (hR : R = (L, x)) (hM : MkI w w' A k c L) :
    ∃ (A' : Option Addr) (k' c' : Nat), Ending.returned (.tuple #[.slice A k c, .int .i64 x]) = .returned (.tuple #[.slice A' k' c', .int .i64 R.2]) ∧ MkI w w' A' k' c' R.1 := by
  subst hR
  exact ⟨_, _, _, rfl, hM⟩

set_option maxHeartbeats 1600000 in
set_option maxRecDepth 8000 in
theorem l10Bracket_any (P : Int) (A : Option Addr) (n c : Nat) (sq : List Int) (X : Option Addr) (cx : Nat) (xs : List Int) (Y : Option Addr) (cy : Nat) (ys : List Int) (w : World) (hp : 2 ≤ P) (hp2 : P ≤ 13) (hn : n ≤ 6) (ha : Rd w A n (ints sq)) (hs : NumsL P sq) (hx : Rd w X (pw n) (ints xs)) (hxs : NumsL P xs) (hy : Rd w Y (pw n) (ints ys)) (hys : NumsL P ys) (HP : isP P = true) :
    Calls Try.prog 19 #[.agg #[.int .i64 P, .slice A n c], .slice X (pw n) cx, .slice Y (pw n) cy] w fun e w' => ∃ A' c', e = .returned (.slice A' (pw n) c') ∧ MkI w w' A' (pw n) c' (halfL P (brkL P sq n xs ys)) := by
  have hB0 : Below w.heap.size w (w.alloc (.cells #[.int .i64 P, .slice A n c] 28)) := (Below.refl _ _).alloc (Nat.le_refl _) _
  have k0 : Blk (w.alloc (.cells #[.int .i64 P, .slice A n c] 28)) w.heap.size 28 #[.int .i64 P, .slice A n c] := Blk.new _ _ _
  have HPW : pw n ≤ 65536 := Nat.le_trans (pw_le (show n ≤ 10 by omega)) (by decide)
  have HPW64 : pw n ≤ 64 := pw_le hn
  have hp3 := (isP_ge HP).1
  go_enter Try.func19, Try.ntmps19
  go_wp2
  refine wp_obs 11 [[], [0], [], [], [], [2, 3, 4], [], [6], [6, 7], [0, 1, 2, 3, 4, 5, 6, 7, 8], [0, 1, 2, 3, 4, 5, 6, 7, 8, 9]] [VIs (.pointer (some ⟨w.heap.size, 0, none⟩)), VIs (.int .i64 P), VIs (.agg #[.int .i64 P, .slice A n c]), VIs (.slice X (pw n) cx), VIs (.slice Y (pw n) cy), VSl w (pw n) (brkL P sq n xs ys), VIs (.pointer (some ⟨w.heap.size, 0, none⟩)), VIs (.int .i64 P), VIs (.int .i64 (invF P 2)), VSl w (pw n) (scaleL P (brkL P sq n xs ys) (invF P 2)), VSl w (pw n) (scaleL P (brkL P sq n xs ys) (invF P 2))] (fun w' => Blk w' w.heap.size 28 #[.int .i64 P, .slice A n c] ∧ Below w.heap.size w w') (by kernel_rfl) (by kernel_rfl) (fun _ _ h hb => ⟨h.1.below hb h.1.lt, h.2.trans (hb.mono h.2.size)⟩) (⟨k0.drew, hB0.drew⟩) (fun x => ?_)
  refine obs_step (Eq.trans (by simp only [List.getElem?_toArray, List.getElem?_cons_zero]; exact rfl) rfl) rfl (fun w' hS hV K hK => ?_) ?_
  · obtain ⟨q0, q1⟩ := hS.1.two
    go_simp
    exact hK.out _ _ _ rfl rfl rfl (Below.refl _ _)
  simp only [List.setIfInBounds_toArray, List.set_cons_zero, List.set_cons_succ]
  refine obs_step (Eq.trans (by simp only [List.getElem?_toArray, List.getElem?_cons_succ, List.getElem?_cons_zero]; exact rfl) rfl) rfl (fun w' hS hV K hK => ?_) ?_
  · have e0 : x 0 = (.pointer (some ⟨w.heap.size, 0, none⟩)) := hV 0 (by decide)
    obtain ⟨q0, q1⟩ := hS.1.two
    go_simp
    exact hK.out _ _ _ rfl rfl rfl (Below.refl _ _)
  simp only [List.setIfInBounds_toArray, List.set_cons_zero, List.set_cons_succ]
  refine obs_step (Eq.trans (by simp only [List.getElem?_toArray, List.getElem?_cons_succ, List.getElem?_cons_zero]; exact rfl) rfl) rfl (fun w' hS hV K hK => ?_) ?_
  · obtain ⟨q0, q1⟩ := hS.1.two
    go_simp
    exact hK.out _ _ _ rfl rfl rfl (Below.refl _ _)
  simp only [List.setIfInBounds_toArray, List.set_cons_zero, List.set_cons_succ]
  refine obs_step (Eq.trans (by simp only [List.getElem?_toArray, List.getElem?_cons_succ, List.getElem?_cons_zero]; exact rfl) rfl) rfl (fun w' hS hV K hK => ?_) ?_
  · obtain ⟨q0, q1⟩ := hS.1.two
    go_simp
    exact hK.out _ _ _ rfl rfl rfl (Below.refl _ _)
  simp only [List.setIfInBounds_toArray, List.set_cons_zero, List.set_cons_succ]
  refine obs_step (Eq.trans (by simp only [List.getElem?_toArray, List.getElem?_cons_succ, List.getElem?_cons_zero]; exact rfl) rfl) rfl (fun w' hS hV K hK => ?_) ?_
  · obtain ⟨q0, q1⟩ := hS.1.two
    go_simp
    exact hK.out _ _ _ rfl rfl rfl (Below.refl _ _)
  simp only [List.setIfInBounds_toArray, List.set_cons_zero, List.set_cons_succ]
  refine obs_step (Eq.trans (by simp only [List.getElem?_toArray, List.getElem?_cons_succ, List.getElem?_cons_zero]; exact rfl) rfl) rfl (fun w' hS hV K hK => ?_) ?_
  · have e2 : x 2 = (.agg #[.int .i64 P, .slice A n c]) := hV 2 (by decide)
    have e3 : x 3 = (.slice X (pw n) cx) := hV 3 (by decide)
    have e4 : x 4 = (.slice Y (pw n) cy) := hV 4 (by decide)
    obtain ⟨q0, q1⟩ := hS.1.two
    go_simp
    refine (l04Bracket_any P A n c sq _ _ xs _ _ ys _ hp hp2 hn (ha.below hS.2) hs (hx.below hS.2) hxs (hy.below hS.2) hys).mono ?_
    rintro e w1 ⟨A2, c2, rfl, hM⟩
    exact hK.out _ _ _ rfl rfl ⟨_, _, rfl, hM.after hS.2⟩ hM.b
  simp only [List.setIfInBounds_toArray, List.set_cons_zero, List.set_cons_succ]
  refine obs_step (Eq.trans (by simp only [List.getElem?_toArray, List.getElem?_cons_succ, List.getElem?_cons_zero]; exact rfl) rfl) rfl (fun w' hS hV K hK => ?_) ?_
  · obtain ⟨q0, q1⟩ := hS.1.two
    go_simp
    exact hK.out _ _ _ rfl rfl rfl (Below.refl _ _)
  simp only [List.setIfInBounds_toArray, List.set_cons_zero, List.set_cons_succ]
  refine obs_step (Eq.trans (by simp only [List.getElem?_toArray, List.getElem?_cons_succ, List.getElem?_cons_zero]; exact rfl) rfl) rfl (fun w' hS hV K hK => ?_) ?_
  · have e6 : x 6 = (.pointer (some ⟨w.heap.size, 0, none⟩)) := hV 6 (by decide)
    obtain ⟨q0, q1⟩ := hS.1.two
    go_simp
    exact hK.out _ _ _ rfl rfl rfl (Below.refl _ _)
  simp only [List.setIfInBounds_toArray, List.set_cons_zero, List.set_cons_succ]
  refine obs_step (Eq.trans (by simp only [List.getElem?_toArray, List.getElem?_cons_succ, List.getElem?_cons_zero]; exact rfl) rfl) rfl (fun w' hS hV K hK => ?_) ?_
  · have e6 : x 6 = (.pointer (some ⟨w.heap.size, 0, none⟩)) := hV 6 (by decide)
    have e7 : x 7 = (.int .i64 P) := hV 7 (by decide)
    obtain ⟨q0, q1⟩ := hS.1.two
    go_simp
    refine (l01Inv_any P 2 _ HP (by omega) (show 0 ≤ (2 : Int) ∧ (2 : Int) < P from ⟨by omega, by omega⟩).2).mono ?_
    rintro e w1 ⟨rfl, rfl⟩
    exact hK.out _ _ _ rfl rfl rfl (Below.refl _ _)
  simp only [List.setIfInBounds_toArray, List.set_cons_zero, List.set_cons_succ]
  refine obs_step (Eq.trans (by simp only [List.getElem?_toArray, List.getElem?_cons_succ, List.getElem?_cons_zero]; exact rfl) rfl) rfl (fun w' hS hV K hK => ?_) ?_
  · have e0 : x 0 = (.pointer (some ⟨w.heap.size, 0, none⟩)) := hV 0 (by decide)
    have e1 : x 1 = (.int .i64 P) := hV 1 (by decide)
    have e2 : x 2 = (.agg #[.int .i64 P, .slice A n c]) := hV 2 (by decide)
    have e3 : x 3 = (.slice X (pw n) cx) := hV 3 (by decide)
    have e4 : x 4 = (.slice Y (pw n) cy) := hV 4 (by decide)
    obtain ⟨A5, c5, e5, h5⟩ := hV 5 (by decide)
    have e6 : x 6 = (.pointer (some ⟨w.heap.size, 0, none⟩)) := hV 6 (by decide)
    have e7 : x 7 = (.int .i64 P) := hV 7 (by decide)
    have e8 : x 8 = (.int .i64 (invF P 2)) := hV 8 (by decide)
    obtain ⟨q0, q1⟩ := hS.1.two
    go_simp
    refine (l02Scale_any P _ (pw n) _ (invF P 2) (brkL P sq n xs ys) _ hp hp2 HPW h5.rd (brkL_nums hp sq n xs ys) (by have := (invF_small hp 2); omega) (by have := (invF_small hp 2); omega)).mono ?_
    rintro e w1 ⟨A2, c2, rfl, hM⟩
    exact hK.out _ _ _ rfl rfl ⟨_, _, rfl, hM.after hS.2⟩ hM.b
  simp only [List.setIfInBounds_toArray, List.set_cons_zero, List.set_cons_succ]
  refine obs_step (Eq.trans (by simp only [List.getElem?_toArray, List.getElem?_cons_succ, List.getElem?_cons_zero]; exact rfl) rfl) rfl (fun w' hS hV K hK => ?_) ?_
  · have e0 : x 0 = (.pointer (some ⟨w.heap.size, 0, none⟩)) := hV 0 (by decide)
    have e1 : x 1 = (.int .i64 P) := hV 1 (by decide)
    have e2 : x 2 = (.agg #[.int .i64 P, .slice A n c]) := hV 2 (by decide)
    have e3 : x 3 = (.slice X (pw n) cx) := hV 3 (by decide)
    have e4 : x 4 = (.slice Y (pw n) cy) := hV 4 (by decide)
    obtain ⟨A5, c5, e5, h5⟩ := hV 5 (by decide)
    have e6 : x 6 = (.pointer (some ⟨w.heap.size, 0, none⟩)) := hV 6 (by decide)
    have e7 : x 7 = (.int .i64 P) := hV 7 (by decide)
    have e8 : x 8 = (.int .i64 (invF P 2)) := hV 8 (by decide)
    obtain ⟨A9, c9, e9, h9⟩ := hV 9 (by decide)
    obtain ⟨q0, q1⟩ := hS.1.two
    go_simp
    exact hK.out _ _ _ rfl rfl ⟨_, _, rfl, h9⟩ (Below.refl _ _)
  simp only [List.setIfInBounds_toArray, List.set_cons_zero, List.set_cons_succ]
  refine fun w' hS hV => ?_
  have e0 : x 0 = (.pointer (some ⟨w.heap.size, 0, none⟩)) := hV 0 (by decide)
  have e1 : x 1 = (.int .i64 P) := hV 1 (by decide)
  have e2 : x 2 = (.agg #[.int .i64 P, .slice A n c]) := hV 2 (by decide)
  have e3 : x 3 = (.slice X (pw n) cx) := hV 3 (by decide)
  have e4 : x 4 = (.slice Y (pw n) cy) := hV 4 (by decide)
  obtain ⟨A5, c5, e5, h5⟩ := hV 5 (by decide)
  have e6 : x 6 = (.pointer (some ⟨w.heap.size, 0, none⟩)) := hV 6 (by decide)
  have e7 : x 7 = (.int .i64 P) := hV 7 (by decide)
  have e8 : x 8 = (.int .i64 (invF P 2)) := hV 8 (by decide)
  obtain ⟨A9, c9, e9, h9⟩ := hV 9 (by decide)
  obtain ⟨A10, c10, e10, h10⟩ := hV 10 (by decide)
  simp only [e0, e1, e2, e3, e4, e5, e6, e7, e8, e9, e10]
  clear e0 e1 e2 e3 e4 e5 e6 e7 e8 e9 e10
  refine wpAny_done (by kernel_rfl) ?_ _
  go_wp2
  go_ret
  exact ⟨_, _, rfl, by unfold halfL; exact h10⟩

set_option maxHeartbeats 1600000 in
set_option maxRecDepth 8000 in
theorem BivectorBracket_any (P : Int) (A : Option Addr) (n c : Nat) (sq : List Int) (X : Option Addr) (m cx : Nat) (xs : List Int) (Y : Option Addr) (l cy : Nat) (ys : List Int) (w : World) (hn : n ≤ 1048576) (hm : m ≤ 1048576) (hl : l ≤ 1048576) (ha : Rd w A n (ints sq)) (hx : Rd w X m (ints xs)) (hcx : m ≤ cx) (hy : Rd w Y l (ints ys)) (hcy : l ≤ cy) :
    Calls Try.prog 9 #[.agg #[.int .i64 P, .slice A n c], .slice X m cx, .slice Y l cy] w fun e w' => ∃ (A' : Option Addr) (k c' : Nat), e = .returned (.tuple #[.slice A' k c', .int .i64 (bbrR P sq xs ys).2]) ∧ MkI w w' A' k c' (bbrR P sq xs ys).1 := by
  have hB0 : Below w.heap.size w (w.alloc (.cells #[.int .i64 P, .slice A n c] 28)) := (Below.refl _ _).alloc (Nat.le_refl _) _
  have k0 : Blk (w.alloc (.cells #[.int .i64 P, .slice A n c] 28)) w.heap.size 28 #[.int .i64 P, .slice A n c] := Blk.new _ _ _
  have hB1 : Below w.heap.size w ((w.alloc (.cells #[.int .i64 P, .slice A n c] 28)).alloc (.cells #[.slice X m cx, .slice Y l cy] 22)) := hB0.alloc (by simp) _
  have k1 : Blk ((w.alloc (.cells #[.int .i64 P, .slice A n c] 28)).alloc (.cells #[.slice X m cx, .slice Y l cy] 22)) w.heap.size 28 #[.int .i64 P, .slice A n c] := k0.alloc _
  have hreg := checkBivectors_any P A (some ⟨w.heap.size + 1, 0, none⟩) n c 2 2 sq [xs, ys] ((w.alloc (.cells #[.int .i64 P, .slice A n c] 28)).alloc (.cells #[.slice X m cx, .slice Y l cy] 22)) hn (by omega) (ha.below hB1) (rdII_two (Blk.newAt (by simp)) (hx.below hB1) (hy.below hB1) hcx hcy) (all_two (by rw [hx.lenI]; exact hm) (by rw [hy.lenI]; exact hl))
  by_cases hr0 : codeB P sq [xs, ys] = 0
  · skip
    obtain ⟨HP, hp3, hp2, _, hn6, hs0, hms⟩ := codeM_spec2 (codeR_zero2 (codeB_zero hr0))
    have hsl := ha.lenI
    obtain ⟨hx1, hxs0⟩ := hms xs (by simp)
    obtain ⟨hy1, hys0⟩ := hms ys (by simp)
    have hmx : m = pw n := by rw [← hx.lenI, hx1, hsl]
    have hly : l = pw n := by rw [← hy.lenI, hy1, hsl]
    subst hmx
    subst hly
    rw [hr0] at hreg
    have HR0 := Lib.hid hr0
    have HSL := Lib.hid hsl
    have HS0 := Lib.hid hs0
    have HXS := Lib.hid hxs0
    have HYS := Lib.hid hys0
    have hn6 : n ≤ 6 := by omega
    clear hr0 hsl hms hx1 hy1 hs0 hxs0 hys0
    go_enter Try.func9, Try.ntmps9
    go_wp2_with fail
    refine hreg.mono ?_
    rintro e w2 ⟨rfl, hb2⟩
    have hB2 := hB1.trans (hb2.mono hB1.size)
    have k2 := k1.below hb2 k1.lt
    obtain ⟨q0, q1⟩ := k2.two
    clear k0 hB0 k1 hB1 hb2
    clear hn
    have hn := hn6
    have hp : 2 ≤ P := by omega
    have hs := HS0.out
    have hxs := HXS.out
    have hys := HYS.out
    have HPW : pw n ≤ 65536 := Nat.le_trans (pw_le (show n ≤ 10 by omega)) (by decide)
    go_wp2
    refine wp_obs 8 [[], [], [], [], [1, 2, 3], [0, 1, 2, 3, 4], [0, 1, 2, 3, 4, 5], []] [VIs (.agg #[.int .i64 P, .slice A n c]), VIs (.agg #[.int .i64 P, .slice A n c]), VIs (.slice X (pw n) cx), VIs (.slice Y (pw n) cy), VSl w (pw n) (brkL P sq n xs ys), VSl w (pw n) (halfL P (brkL P sq n xs ys)), VSl w (pw n) (halfL P (brkL P sq n xs ys)), VIs (.int .i64 0)] (fun w' => Blk w' w.heap.size 28 #[.int .i64 P, .slice A n c] ∧ Below w.heap.size w w') (by kernel_rfl) (by kernel_rfl) (fun _ _ h hb => ⟨h.1.below hb h.1.lt, h.2.trans (hb.mono h.2.size)⟩) (⟨k2.drew, hB2.drew⟩) (fun x => ?_)
    refine obs_step (Eq.trans (by simp only [List.getElem?_toArray, List.getElem?_cons_zero]; exact rfl) rfl) rfl (fun w' hS hV K hK => ?_) ?_
    · obtain ⟨q0, q1⟩ := hS.1.two
      go_simp
      exact hK.out _ _ _ rfl rfl rfl (Below.refl _ _)
    simp only [List.setIfInBounds_toArray, List.set_cons_zero, List.set_cons_succ]
    refine obs_step (Eq.trans (by simp only [List.getElem?_toArray, List.getElem?_cons_succ, List.getElem?_cons_zero]; exact rfl) rfl) rfl (fun w' hS hV K hK => ?_) ?_
    · obtain ⟨q0, q1⟩ := hS.1.two
      go_simp
      exact hK.out _ _ _ rfl rfl rfl (Below.refl _ _)
    simp only [List.setIfInBounds_toArray, List.set_cons_zero, List.set_cons_succ]
    refine obs_step (Eq.trans (by simp only [List.getElem?_toArray, List.getElem?_cons_succ, List.getElem?_cons_zero]; exact rfl) rfl) rfl (fun w' hS hV K hK => ?_) ?_
    · obtain ⟨q0, q1⟩ := hS.1.two
      go_simp
      exact hK.out _ _ _ rfl rfl rfl (Below.refl _ _)
    simp only [List.setIfInBounds_toArray, List.set_cons_zero, List.set_cons_succ]
    refine obs_step (Eq.trans (by simp only [List.getElem?_toArray, List.getElem?_cons_succ, List.getElem?_cons_zero]; exact rfl) rfl) rfl (fun w' hS hV K hK => ?_) ?_
    · obtain ⟨q0, q1⟩ := hS.1.two
      go_simp
      exact hK.out _ _ _ rfl rfl rfl (Below.refl _ _)
    simp only [List.setIfInBounds_toArray, List.set_cons_zero, List.set_cons_succ]
    refine obs_step (Eq.trans (by simp only [List.getElem?_toArray, List.getElem?_cons_succ, List.getElem?_cons_zero]; exact rfl) rfl) rfl (fun w' hS hV K hK => ?_) ?_
    · have e1 : x 1 = (.agg #[.int .i64 P, .slice A n c]) := hV 1 (by decide)
      have e2 : x 2 = (.slice X (pw n) cx) := hV 2 (by decide)
      have e3 : x 3 = (.slice Y (pw n) cy) := hV 3 (by decide)
      obtain ⟨q0, q1⟩ := hS.1.two
      go_simp
      refine (bracket_any P A n c sq _ _ xs _ _ ys _ hp hp2 hn (ha.below hS.2) hs (hx.below hS.2) hxs hcx (hy.below hS.2) hys hcy).mono ?_
      rintro e w1 ⟨A2, c2, rfl, hM⟩
      exact hK.out _ _ _ rfl rfl ⟨_, _, rfl, hM.after hS.2⟩ hM.b
    simp only [List.setIfInBounds_toArray, List.set_cons_zero, List.set_cons_succ]
    refine obs_step (Eq.trans (by simp only [List.getElem?_toArray, List.getElem?_cons_succ, List.getElem?_cons_zero]; exact rfl) rfl) rfl (fun w' hS hV K hK => ?_) ?_
    · have e0 : x 0 = (.agg #[.int .i64 P, .slice A n c]) := hV 0 (by decide)
      have e1 : x 1 = (.agg #[.int .i64 P, .slice A n c]) := hV 1 (by decide)
      have e2 : x 2 = (.slice X (pw n) cx) := hV 2 (by decide)
      have e3 : x 3 = (.slice Y (pw n) cy) := hV 3 (by decide)
      obtain ⟨A4, c4, e4, h4⟩ := hV 4 (by decide)
      obtain ⟨q0, q1⟩ := hS.1.two
      go_simp
      refine (halved_any P A n c _ _ (brkL P sq n xs ys) _ hp3 hp2 hn h4.rd (brkL_nums hp sq n xs ys)).mono ?_
      rintro e w1 ⟨A2, c2, rfl, hM⟩
      exact hK.out _ _ _ rfl rfl ⟨_, _, rfl, hM.after hS.2⟩ hM.b
    simp only [List.setIfInBounds_toArray, List.set_cons_zero, List.set_cons_succ]
    refine obs_step (Eq.trans (by simp only [List.getElem?_toArray, List.getElem?_cons_succ, List.getElem?_cons_zero]; exact rfl) rfl) rfl (fun w' hS hV K hK => ?_) ?_
    · have e0 : x 0 = (.agg #[.int .i64 P, .slice A n c]) := hV 0 (by decide)
      have e1 : x 1 = (.agg #[.int .i64 P, .slice A n c]) := hV 1 (by decide)
      have e2 : x 2 = (.slice X (pw n) cx) := hV 2 (by decide)
      have e3 : x 3 = (.slice Y (pw n) cy) := hV 3 (by decide)
      obtain ⟨A4, c4, e4, h4⟩ := hV 4 (by decide)
      obtain ⟨A5, c5, e5, h5⟩ := hV 5 (by decide)
      obtain ⟨q0, q1⟩ := hS.1.two
      go_simp
      exact hK.out _ _ _ rfl rfl ⟨_, _, rfl, h5⟩ (Below.refl _ _)
    simp only [List.setIfInBounds_toArray, List.set_cons_zero, List.set_cons_succ]
    refine obs_step (Eq.trans (by simp only [List.getElem?_toArray, List.getElem?_cons_succ, List.getElem?_cons_zero]; exact rfl) rfl) rfl (fun w' hS hV K hK => ?_) ?_
    · obtain ⟨q0, q1⟩ := hS.1.two
      go_simp
      exact hK.out _ _ _ rfl rfl rfl (Below.refl _ _)
    simp only [List.setIfInBounds_toArray, List.set_cons_zero, List.set_cons_succ]
    refine fun w' hS hV => ?_
    have e0 : x 0 = (.agg #[.int .i64 P, .slice A n c]) := hV 0 (by decide)
    have e1 : x 1 = (.agg #[.int .i64 P, .slice A n c]) := hV 1 (by decide)
    have e2 : x 2 = (.slice X (pw n) cx) := hV 2 (by decide)
    have e3 : x 3 = (.slice Y (pw n) cy) := hV 3 (by decide)
    obtain ⟨A4, c4, e4, h4⟩ := hV 4 (by decide)
    obtain ⟨A5, c5, e5, h5⟩ := hV 5 (by decide)
    obtain ⟨A6, c6, e6, h6⟩ := hV 6 (by decide)
    have e7 : x 7 = (.int .i64 0) := hV 7 (by decide)
    simp only [e0, e1, e2, e3, e4, e5, e6, e7]
    clear e0 e1 e2 e3 e4 e5 e6 e7
    refine wpAny_done (by kernel_rfl) ?_ _
    go_wp2
    go_ret2
    exact aList (by rw [bbrR_ok HR0.out, HSL.out]) h6
  · obtain ⟨r, hr⟩ : ∃ r, r = codeB P sq [xs, ys] := ⟨_, rfl⟩
    have HR := Lib.hid hr
    have HR0 := Lib.hid hr0
    have b0 : (r != 0) = true := code_ne (by rw [hr]; exact hr0)
    rw [← hr] at hreg
    clear hr hr0
    go_enter Try.func9, Try.ntmps9
    go_wp2_with fail
    refine hreg.mono ?_
    rintro e w2 ⟨rfl, hb2⟩
    have hB2 := hB1.trans (hb2.mono hB1.size)
    have k2 := k1.below hb2 k1.lt
    obtain ⟨q0, q1⟩ := k2.two
    clear k0 hB0 k1 hB1 hb2
    go_wp2
    go_ret2
    exact noList (by rw [bbrR_bad HR0.out, HR.out]) hB2

set_option maxHeartbeats 1600000 in
set_option maxRecDepth 8000 in
theorem specBivectorBracket_any (P : Int) (A : Option Addr) (n c : Nat) (sq : List Int) (X : Option Addr) (m cx : Nat) (xs : List Int) (Y : Option Addr) (l cy : Nat) (ys : List Int) (w : World) (hn : n ≤ 1048576) (hm : m ≤ 1048576) (hl : l ≤ 1048576) (ha : Rd w A n (ints sq)) (hx : Rd w X m (ints xs)) (hcx : m ≤ cx) (hy : Rd w Y l (ints ys)) (hcy : l ≤ cy) :
    Calls Try.prog 6 #[.agg #[.int .i64 P, .slice A n c], .slice X m cx, .slice Y l cy] w fun e w' => ∃ (A' : Option Addr) (k c' : Nat), e = .returned (.tuple #[.slice A' k c', .int .i64 (bbrR P sq xs ys).2]) ∧ MkI w w' A' k c' (bbrR P sq xs ys).1 := by
  have hB0 : Below w.heap.size w (w.alloc (.cells #[.int .i64 P, .slice A n c] 28)) := (Below.refl _ _).alloc (Nat.le_refl _) _
  have k0 : Blk (w.alloc (.cells #[.int .i64 P, .slice A n c] 28)) w.heap.size 28 #[.int .i64 P, .slice A n c] := Blk.new _ _ _
  have hB1 : Below w.heap.size w ((w.alloc (.cells #[.int .i64 P, .slice A n c] 28)).alloc (.cells #[.slice X m cx, .slice Y l cy] 22)) := hB0.alloc (by simp) _
  have k1 : Blk ((w.alloc (.cells #[.int .i64 P, .slice A n c] 28)).alloc (.cells #[.slice X m cx, .slice Y l cy] 22)) w.heap.size 28 #[.int .i64 P, .slice A n c] := k0.alloc _
  have hreg := l10Code_any P A (some ⟨w.heap.size + 1, 0, none⟩) n c 2 2 sq [xs, ys] ((w.alloc (.cells #[.int .i64 P, .slice A n c] 28)).alloc (.cells #[.slice X m cx, .slice Y l cy] 22)) hn (by omega) (ha.below hB1) (rdII_two (Blk.newAt (by simp)) (hx.below hB1) (hy.below hB1) hcx hcy) (all_two (by rw [hx.lenI]; exact hm) (by rw [hy.lenI]; exact hl))
  by_cases hr0 : codeB P sq [xs, ys] = 0
  · skip
    obtain ⟨HP, hp3, hp2, _, hn6, hs0, hms⟩ := codeM_spec2 (codeR_zero2 (codeB_zero hr0))
    have hsl := ha.lenI
    obtain ⟨hx1, hxs0⟩ := hms xs (by simp)
    obtain ⟨hy1, hys0⟩ := hms ys (by simp)
    have hmx : m = pw n := by rw [← hx.lenI, hx1, hsl]
    have hly : l = pw n := by rw [← hy.lenI, hy1, hsl]
    subst hmx
    subst hly
    rw [hr0] at hreg
    have HR0 := Lib.hid hr0
    have HSL := Lib.hid hsl
    have HS0 := Lib.hid hs0
    have HXS := Lib.hid hxs0
    have HYS := Lib.hid hys0
    have hn6 : n ≤ 6 := by omega
    clear hr0 hsl hms hx1 hy1 hs0 hxs0 hys0
    go_enter Try.func6, Try.ntmps6
    go_wp2_with fail
    refine hreg.mono ?_
    rintro e w2 ⟨rfl, hb2⟩
    have hB2 := hB1.trans (hb2.mono hB1.size)
    have k2 := k1.below hb2 k1.lt
    obtain ⟨q0, q1⟩ := k2.two
    clear k0 hB0 k1 hB1 hb2
    clear hn
    have hn := hn6
    have hp : 2 ≤ P := by omega
    have hs := HS0.out
    have hxs := HXS.out
    have hys := HYS.out
    have HPW : pw n ≤ 65536 := Nat.le_trans (pw_le (show n ≤ 10 by omega)) (by decide)
    go_wp2_with fail
    refine (l10Bracket_any P A n c sq X cx xs Y cy ys _ hp hp2 hn (ha.below hB2) hs (hx.below hB2) hxs (hy.below hB2) hys HP).mono ?_
    rintro e w3 ⟨A3, c3, rfl, hM⟩
    go_wp2
    go_ret2
    exact aList (by rw [bbrR_ok HR0.out, HSL.out]) (hM.after hB2)
  · obtain ⟨r, hr⟩ : ∃ r, r = codeB P sq [xs, ys] := ⟨_, rfl⟩
    have HR := Lib.hid hr
    have HR0 := Lib.hid hr0
    have b0 : (r != 0) = true := code_ne (by rw [hr]; exact hr0)
    rw [← hr] at hreg
    clear hr hr0
    go_enter Try.func6, Try.ntmps6
    go_wp2_with fail
    refine hreg.mono ?_
    rintro e w2 ⟨rfl, hb2⟩
    have hB2 := hB1.trans (hb2.mono hB1.size)
    have k2 := k1.below hb2 k1.lt
    obtain ⟨q0, q1⟩ := k2.two
    clear k0 hB0 k1 hB1 hb2
    go_wp2
    go_ret2
    exact noList (by rw [bbrR_bad HR0.out, HR.out]) hB2

end Go.Proofs.Ytgfgnpdnppggeaa
