/-
  Sandwiches and unit versors that a user calls: both sides return the same.
-/
import Derived.Test.YtgfgnpdnppggeaaGreatTop
namespace Go.Proofs.YtgfgnpdnppggeaaGreat
open Go.RowKit

theorem vinvL_len (P : Int) (sq xs : List Int) : (vinvL P sq xs).length = xs.length := by unfold vinvL revL; rw [scaleL_len, sgnL_len]
theorem sandL_len (P : Int) (sq : List Int) (n : Nat) (xs v : List Int) : (sandL P sq n xs v).length = n := by unfold sandL; rw [partL_len]
theorem vinvR_len {P : Int} {sq xs : List Int} (h : xs.length ≤ 1048576) : (vinvR P sq xs).1.length ≤ 1048576 := by
  unfold vinvR
  split
  · rw [vinvL_len]; exact h
  · simp
theorem sandR_len {P : Int} {sq xs v : List Int} (h : sq.length ≤ 1048576) : (sandR P sq xs v).1.length ≤ 1048576 := by
  unfold sandR
  split
  · split
    · split
      · rw [sandL_len]; exact h
      · simp
    · simp
  · simp
theorem sandMR_len {P : Int} {sq xs ys : List Int} (h : xs.length ≤ 1048576) : (sandMR P sq xs ys).1.length ≤ 1048576 := by
  unfold sandMR
  split
  · split
    · unfold sandM; rw [mulL_len, mulL_len]; exact h
    · simp
  · simp

theorem codeM_two {P : Int} {sq xs ys : List Int} (h : codeM P sq [xs, ys] = 0) : codeM P sq [xs] = 0 ∧ isMu P sq xs = true ∧ isMu P sq ys = true := by
  obtain ⟨h1, h2⟩ := codeM_sp h
  have hx := h2 xs (by simp)
  have hy := h2 ys (by simp)
  refine ⟨?_, hx, hy⟩
  unfold codeM
  rw [h1, if_pos rfl]
  simp [hx]
theorem codeM_one {P : Int} {sq xs ys : List Int} (h : codeM P sq [xs] = 0) (hy : isVe P sq ys = true) : codeV P sq [ys] = 0 := by
  unfold codeV
  rw [(codeM_sp h).1, if_pos rfl]
  simp [hy]
/-- What the code of the program's check says. -/
theorem codeVs_zero {P : Int} {sq xs v : List Int} (h : codeVs P sq [xs] [v] = 0) : codeM P sq [xs] = 0 ∧ isVe P sq v = true ∧ codeR P sq [xs] = 0 := by
  unfold codeVs at h
  by_cases h1 : codeM P sq [xs] = 0
  · rw [if_pos h1] at h
    by_cases h2 : codeV P sq [v] = 0
    · rw [if_pos h2] at h
      refine ⟨h1, ?_, by unfold codeR; rw [if_pos h1]; exact h⟩
      unfold codeV at h2
      rw [(codeM_sp h1).1, if_pos rfl] at h2
      cases h3 : isVe P sq v
      · simp [h3] at h2
      · rfl
    · rw [if_neg h2] at h; exact absurd h h2
  · rw [if_neg h1] at h; exact absurd h h1
theorem codeVs_bad {P : Int} {sq xs v : List Int} (h : ¬ codeVs P sq [xs] [v] = 0) : sandR P sq xs v = ([], codeVs P sq [xs] [v]) := by
  unfold sandR
  by_cases h1 : codeM P sq [xs] = 0
  · rw [if_pos h1]
    cases h2 : isVe P sq v
    · rw [if_neg (by decide)]
      have h3 : codeV P sq [v] = 2 := by unfold codeV; rw [(codeM_sp h1).1, if_pos rfl]; simp [h2]
      have : codeVs P sq [xs] [v] = 2 := by unfold codeVs; rw [if_pos h1, h3]; rfl
      rw [this]
    · rw [if_pos rfl]
      have h3 := codeM_one h1 h2
      have h4 : codeVs P sq [xs] [v] = codeR P sq [xs] := by unfold codeVs codeR; rw [if_pos h1, if_pos h3, if_pos h1]
      rw [h4] at h ⊢
      rw [codeVr_ne h, if_neg h]
  · rw [if_neg h1]
    have : codeVs P sq [xs] [v] = codeM P sq [xs] := by unfold codeVs; rw [if_neg h1]
    rw [this]
theorem codeR_one {P : Int} {sq xs ys : List Int} (h : codeM P sq [xs, ys] = 0) : codeR P sq [xs, ys] = codeR P sq [xs] := by
  unfold codeR
  rw [if_pos h, if_pos (codeM_two h).1]

theorem rootF_spec (p a : Int) : ∀ (k i : Nat) (r : Int), rootF p a k i = some r → (i : Int) ≤ r ∧ r < (i : Int) + k ∧ (r * r) % p = a := by
  intro k
  induction k with
  | zero => intro i r h; simp [rootF] at h
  | succ k ih =>
    intro i r h
    unfold rootF at h
    split at h
    · rename_i hh
      injection h with h
      subst h
      exact ⟨by omega, by omega, hh⟩
    · obtain ⟨h1, h2, h3⟩ := ih (i + 1) r h
      exact ⟨by omega, by omega, h3⟩
/-- A root of a number that is not 0. -/
theorem rootF_small {p a r : Int} (hp : 2 ≤ p) (h : rootF p a p.toNat 0 = some r) (ha : 0 < a) : 0 < r ∧ r < p := by
  obtain ⟨h1, h2, h3⟩ := rootF_spec p a _ _ _ h
  refine ⟨?_, by omega⟩
  have : r ≠ 0 := by
    rintro rfl
    simp at h3
    omega
  omega
theorem root_some {p a r : Int} (w : World) (hp : 2 ≤ p) (hp2 : p ≤ 13) (h : rootF p a p.toNat 0 = some r) :
    Calls Tryz.prog 85 #[.int .i64 p, .int .i64 a] w fun e w' => e = .returned (.tuple #[.int .i64 r, .bool true]) ∧ w = w' := by
  have := root_any p a w hp hp2
  rw [h] at this
  exact this
theorem root_none {p a : Int} (w : World) (hp : 2 ≤ p) (hp2 : p ≤ 13) (h : rootF p a p.toNat 0 = none) :
    Calls Tryz.prog 85 #[.int .i64 p, .int .i64 a] w fun e w' => e = .returned (.tuple #[.int .i64 0, .bool false]) ∧ w = w' := by
  have := root_any p a w hp hp2
  rw [h] at this
  exact this
theorem l01Root_some {p a r : Int} (w : World) (hp : 2 ≤ p) (hp2 : p ≤ 13) (h : rootF p a p.toNat 0 = some r) :
    Calls Tryz.prog 81 #[.int .i64 p, .int .i64 a] w fun e w' => e = .returned (.int .i64 r) ∧ w = w' := by
  have := l01Root_any p a w hp hp2
  rw [h] at this
  exact this
theorem l01Root_none {p a : Int} (w : World) (hp : 2 ≤ p) (hp2 : p ≤ 13) (h : rootF p a p.toNat 0 = none) :
    Calls Tryz.prog 81 #[.int .i64 p, .int .i64 a] w fun e w' => e = .returned (.int .i64 (-1)) ∧ w = w' := by
  have := l01Root_any p a w hp hp2
  rw [h] at this
  exact this
/-- UnitVersor. -/
def unitR (P : Int) (sq xs : List Int) : List Int × Int :=
  if codeVr P sq xs = 0 then (match rootF P (nrmL P sq xs) P.toNat 0 with | none => ([], 5) | some r => (scaleL P xs (invF P r), 0)) else ([], codeVr P sq xs)
theorem unitR_len {P : Int} {sq xs : List Int} (h : xs.length ≤ 1048576) : (unitR P sq xs).1.length ≤ 1048576 := by
  unfold unitR
  split
  · split
    · simp
    · rw [scaleL_len]; exact h
  · simp
theorem unitR_ne {P : Int} {sq xs : List Int} (h : ¬ codeVr P sq xs = 0) : unitR P sq xs = ([], codeVr P sq xs) := by unfold unitR; rw [if_neg h]
theorem unitR_none {P : Int} {sq xs : List Int} (h : codeVr P sq xs = 0) (h1 : rootF P (nrmL P sq xs) P.toNat 0 = none) : unitR P sq xs = ([], 5) := by unfold unitR; rw [if_pos h, h1]
theorem unitR_some {P r : Int} {sq xs : List Int} (h : codeVr P sq xs = 0) (h1 : rootF P (nrmL P sq xs) P.toNat 0 = some r) : unitR P sq xs = (scaleL P xs (invF P r), 0) := by unfold unitR; rw [if_pos h, h1]
theorem sandR_ok {P : Int} {sq xs v : List Int} (h : codeM P sq [xs] = 0) (h1 : isVe P sq v = true) (h2 : codeVr P sq xs = 0) : sandR P sq xs v = (sandL P sq sq.length xs v, 0) := by unfold sandR; rw [if_pos h, if_pos h1, if_pos h2]
theorem sandR_vr {P : Int} {sq xs v : List Int} (h : codeM P sq [xs] = 0) (h1 : isVe P sq v = true) (h2 : ¬ codeVr P sq xs = 0) : sandR P sq xs v = ([], codeVr P sq xs) := by unfold sandR; rw [if_pos h, if_pos h1, if_neg h2]
theorem sandR_ve {P : Int} {sq xs v : List Int} (h : codeM P sq [xs] = 0) (h1 : isVe P sq v = false) : sandR P sq xs v = ([], 2) := by unfold sandR; rw [if_pos h, h1]; rfl
theorem sandR_m {P : Int} {sq xs v : List Int} (h : ¬ codeM P sq [xs] = 0) : sandR P sq xs v = ([], codeM P sq [xs]) := by unfold sandR; rw [if_neg h]
theorem sandMR_ok {P : Int} {sq xs v : List Int} (h : codeM P sq [xs, v] = 0) (h2 : codeVr P sq xs = 0) : sandMR P sq xs v = (sandM P sq xs v, 0) := by unfold sandMR; rw [if_pos h, if_pos h2]
theorem sandMR_vr {P : Int} {sq xs v : List Int} (h : codeM P sq [xs, v] = 0) (h2 : ¬ codeVr P sq xs = 0) : sandMR P sq xs v = ([], codeVr P sq xs) := by unfold sandMR; rw [if_pos h, if_neg h2]
theorem sandMR_m {P : Int} {sq xs v : List Int} (h : ¬ codeM P sq [xs, v] = 0) : sandMR P sq xs v = ([], codeM P sq [xs, v]) := by unfold sandMR; rw [if_neg h]
theorem codeVr_5 {P : Int} {sq xs : List Int} (h : codeR P sq [xs] = 0) (hv : versB P sq sq.length xs = false) : codeVr P sq xs = 5 := by unfold codeVr; rw [if_pos h, hv]; rfl
theorem codeVr_0 {P : Int} {sq xs : List Int} (h : codeR P sq [xs] = 0) (hv : versB P sq sq.length xs = true) : codeVr P sq xs = 0 := by unfold codeVr; rw [if_pos h, hv]; rfl
/-- An ending with no list. -/
theorem no_list {w w' : World} {R : List Int × Int} {x : Int} (hR : R = ([], x)) (hB : Below w.heap.size w w') :
    ∃ (A' : Option Addr) (k c' : Nat), Ending.returned (.tuple #[.slice none 0 0, .int .i64 x]) = .returned (.tuple #[.slice A' k c', .int .i64 R.2]) ∧ MkI w w' A' k c' R.1 := by
  subst hR
  exact ⟨none, 0, 0, rfl, Mk.nil hB⟩
/-- An ending with a list. -/
theorem a_list {w w' : World} {R : List Int × Int} {A : Option Addr} {k c : Nat} {L : List Int} {x : Int} (hR : R = (L, x)) (hM : MkI w w' A k c L) :
    ∃ (A' : Option Addr) (k' c' : Nat), Ending.returned (.tuple #[.slice A k c, .int .i64 x]) = .returned (.tuple #[.slice A' k' c', .int .i64 R.2]) ∧ MkI w w' A' k' c' R.1 := by
  subst hR
  exact ⟨_, _, _, rfl, hM⟩

set_option maxHeartbeats 3200000 in
set_option maxRecDepth 8000 in
theorem SandwichOf_any (P : Int) (A : Option Addr) (n c : Nat) (sq : List Int) (X : Option Addr) (m cx : Nat) (xs : List Int) (Y : Option Addr) (l cy : Nat) (ys : List Int) (w : World) (hn : n ≤ 1048576) (hm : m ≤ 1048576) (hl : l ≤ 1048576) (ha : Rd w A n (ints sq)) (hx : Rd w X m (ints xs)) (hcx : m ≤ cx) (hy : Rd w Y l (ints ys)) (hcy : l ≤ cy) :
    Calls Tryz.prog 43 #[.agg #[.int .i64 P, .slice A n c], .slice X m cx, .slice Y l cy] w fun e w' => ∃ (A' : Option Addr) (k c' : Nat), e = .returned (.tuple #[.slice A' k c', .int .i64 (sandR P sq xs ys).2]) ∧ MkI w w' A' k c' (sandR P sq xs ys).1 := by
  have hB0 : Below w.heap.size w (w.alloc (.cells #[.int .i64 P, .slice A n c] 28)) := (Below.refl _ _).alloc (Nat.le_refl _) _
  have k0 : Blk (w.alloc (.cells #[.int .i64 P, .slice A n c] 28)) w.heap.size 28 #[.int .i64 P, .slice A n c] := Blk.new _ _ _
  have hB1 : Below w.heap.size w (((w.alloc (.cells #[.int .i64 P, .slice A n c] 28)).alloc (.cells #[.slice X m cx] 22)).alloc (.cells #[.slice Y l cy] 22)) := (hB0.alloc (by simp) _).alloc (by simp; omega) _
  have k1 : Blk (((w.alloc (.cells #[.int .i64 P, .slice A n c] 28)).alloc (.cells #[.slice X m cx] 22)).alloc (.cells #[.slice Y l cy] 22)) w.heap.size 28 #[.int .i64 P, .slice A n c] := (k0.alloc _).alloc _
  have hreg := checkVersors_any P A (some ⟨w.heap.size + 1, 0, none⟩) (some ⟨w.heap.size + 2, 0, none⟩) n c 1 1 1 1 sq [xs] [ys] (((w.alloc (.cells #[.int .i64 P, .slice A n c] 28)).alloc (.cells #[.slice X m cx] 22)).alloc (.cells #[.slice Y l cy] 22)) hn (by omega) (by omega) (ha.below hB1) (rdII_one' ((Blk.new_at (by simp)).alloc _) (hx.below hB1) hcx) (all_one (by rw [hx.lenI]; exact hm)) (rdII_one' (Blk.new_at (by simp)) (hy.below hB1) hcy) (all_one (by rw [hy.lenI]; exact hl))
  by_cases hr0 : codeVs P sq [xs] [ys] = 0
  · skip
    obtain ⟨hcM, hve, hcR⟩ := codeVs_zero hr0
    have hcM2 := Lib.hid hcM
    rw [hr0] at hreg
    obtain ⟨HP, hp, hp2, hd1, hd2, hs, hms⟩ := codeM_spec hcM
    have hxl := hx.lenI
    have hsl := ha.lenI
    obtain ⟨hl1, hxs⟩ := hms xs (by simp)
    have hn6 : n ≤ 6 := by omega
    have hmn : m = pw n := by rw [← hxl, hl1, hsl]
    subst hmn
    have HSL := Lib.hid hsl
    have HS := Lib.hid hs
    have HXS := Lib.hid hxs
    clear hxl hsl hms hl1 hd1 hd2 hcM hs hxs
    obtain ⟨hyl, hyn⟩ := isVe_spec hve
    have hyll := hy.lenI
    have hln : n = l := by rw [← hyll, hyl, HSL.out]
    subst hln
    clear hyll hyl
    have HCR := Lib.hid hcR
    have HVE := Lib.hid hve
    clear hcR hve hr0
    cases hv : versB P sq n xs
    all_goals
      have HV := Lib.hid hv
      clear hv
      go_enter Tryz.func43, Tryz.ntmps43
      go_wp2_with fail
      refine (hreg).mono ?_
      rintro e w2 ⟨rfl, hb2⟩
      have hB2 := hB1.trans (hb2.mono hB1.size)
      have k2 := k1.below hb2 k1.lt
      obtain ⟨q0, q1⟩ := k2.two
      clear k1 hB1 hb2
      go_wp2_with fail
      refine (isVersor_any P A n c sq X cx xs _ hp hp2 hn6 (ha.below hB2) HS.out (hx.below hB2) HXS.out hcx).mono ?_
      rintro e w3 ⟨rfl, hb3⟩
      rw [HV.out]
      clear q0 q1
      have hB3 := hB2.trans (hb3.mono hB2.size)
      have k3 := k2.below hb3 k2.lt
      obtain ⟨q0, q1⟩ := k3.two
    · go_wp2
      go_ret2
      exact no_list (by rw [sandR_vr hcM2.out HVE.out (by rw [codeVr_5 HCR.out (by rw [HSL.out]; exact HV.out)]; decide), codeVr_5 HCR.out (by rw [HSL.out]; exact HV.out)]) hB3
    · go_wp2_with fail
      refine (sandwich_any P A n c sq X cx xs Y cy ys _ hp hp2 hn6 (ha.below hB3) HS.out (hx.below hB3) HXS.out hcx (hy.below hB3) hyn hcy).mono ?_
      rintro e w4 ⟨A4, c4, rfl, hM⟩
      go_wp2
      go_ret2
      exact a_list (by rw [sandR_ok hcM2.out HVE.out (codeVr_0 HCR.out (by rw [HSL.out]; exact HV.out)), HSL.out]) (hM.after hB3)
  · obtain ⟨r, hr⟩ : ∃ r, r = codeVs P sq [xs] [ys] := ⟨_, rfl⟩
    have HR := Lib.hid hr
    have HR0 := Lib.hid hr0
    have b0 : (r != 0) = true := code_ne (by rw [hr]; exact hr0)
    clear hr hr0
    go_enter Tryz.func43, Tryz.ntmps43
    go_wp2_with fail
    refine (hreg).mono ?_
    rintro e w2 ⟨rfl, hb2⟩
    rw [← HR.out]
    have hB2 := hB1.trans (hb2.mono hB1.size)
    have k2 := k1.below hb2 k1.lt
    obtain ⟨q0, q1⟩ := k2.two
    go_wp2
    go_ret2
    exact no_list (by rw [codeVs_bad HR0.out, HR.out]) hB2

set_option maxHeartbeats 3200000 in
set_option maxRecDepth 8000 in
theorem specSandwichOf_any (P : Int) (A : Option Addr) (n c : Nat) (sq : List Int) (X : Option Addr) (m cx : Nat) (xs : List Int) (Y : Option Addr) (l cy : Nat) (ys : List Int) (w : World) (hn : n ≤ 1048576) (hm : m ≤ 1048576) (hl : l ≤ 1048576) (ha : Rd w A n (ints sq)) (hx : Rd w X m (ints xs)) (hcx : m ≤ cx) (hy : Rd w Y l (ints ys)) (hcy : l ≤ cy) :
    Calls Tryz.prog 42 #[.agg #[.int .i64 P, .slice A n c], .slice X m cx, .slice Y l cy] w fun e w' => ∃ (A' : Option Addr) (k c' : Nat), e = .returned (.tuple #[.slice A' k c', .int .i64 (sandR P sq xs ys).2]) ∧ MkI w w' A' k c' (sandR P sq xs ys).1 := by
  have hB0 : Below w.heap.size w (w.alloc (.cells #[.int .i64 P, .slice A n c] 28)) := (Below.refl _ _).alloc (Nat.le_refl _) _
  have k0 : Blk (w.alloc (.cells #[.int .i64 P, .slice A n c] 28)) w.heap.size 28 #[.int .i64 P, .slice A n c] := Blk.new _ _ _
  have hB1 : Below w.heap.size w ((w.alloc (.cells #[.int .i64 P, .slice A n c] 28)).alloc (.cells #[.slice X m cx] 22)) := hB0.alloc (by simp) _
  have k1 : Blk ((w.alloc (.cells #[.int .i64 P, .slice A n c] 28)).alloc (.cells #[.slice X m cx] 22)) w.heap.size 28 #[.int .i64 P, .slice A n c] := k0.alloc _
  have hreg := l04Code_any P A (some ⟨w.heap.size + 1, 0, none⟩) n c 1 1 sq [xs] ((w.alloc (.cells #[.int .i64 P, .slice A n c] 28)).alloc (.cells #[.slice X m cx] 22)) hn (by omega) (ha.below hB1) (rdII_one' (Blk.new_at (by simp)) (hx.below hB1) hcx) (all_one (by rw [hx.lenI]; exact hm))
  by_cases hr0 : codeM P sq [xs] = 0
  · skip
    rw [hr0] at hreg
    have HCM := Lib.hid hr0
    have hnP : 2 ≤ P ∧ P ≤ 13 ∧ sq.length = n := by
      obtain ⟨_, h2, h3, _⟩ := codeM_spec hr0
      exact ⟨h2, h3, ha.lenI⟩
    obtain ⟨hp, hp2, hsl⟩ := hnP
    have hvs := fun w' (hb : Below w.heap.size w w') => l03Vector_any P A Y n c l cy sq ys w' hn hsl hl (by omega) hp2 (hy.below hb)
    have hvr := fun w' (hb : Below w.heap.size w w') => l07Code_any P A n c sq X m cx xs w' hn hm (ha.below hb) (hx.below hb) hcx
    have HSL := Lib.hid hsl
    clear hr0 hsl
    cases hve : isVe P sq ys
    · have HVE := Lib.hid hve
      clear hve
      go_enter Tryz.func42, Tryz.ntmps42
      go_wp2_with fail
      refine (hreg).mono ?_
      rintro e w2 ⟨rfl, hb2⟩
      have hB2 := hB1.trans (hb2.mono hB1.size)
      have k2 := k1.below hb2 k1.lt
      obtain ⟨q0, q1⟩ := k2.two
      clear k1 hB1 hb2
      go_wp2_with fail
      refine (hvs _ hB2).mono ?_
      rintro e w3 ⟨rfl, hb3⟩
      rw [HVE.out]
      clear q0 q1
      have hB3 := hB2.trans (hb3.mono hB2.size)
      have k3 := k2.below hb3 k2.lt
      obtain ⟨q0, q1⟩ := k3.two
      go_wp2
      go_ret2
      exact no_list (sandR_ve HCM.out HVE.out) hB3
    · have HVE := Lib.hid hve
      obtain ⟨r, hr⟩ : ∃ r, r = codeVr P sq xs := ⟨_, rfl⟩
      have HR := Lib.hid hr
      by_cases hr1 : r = 0
      · obtain ⟨hcr, hvers⟩ := codeVr_zero (hr.symm.trans hr1)
        have hcM := HCM.out
        clear HSL hp hp2
        obtain ⟨HP, hp, hp2, hd1, hd2, hs, hms⟩ := codeM_spec hcM
        have hxl := hx.lenI
        have hsl := ha.lenI
        obtain ⟨hl1, hxs⟩ := hms xs (by simp)
        have hn6 : n ≤ 6 := by omega
        have hmn : m = pw n := by rw [← hxl, hl1, hsl]
        subst hmn
        have HSL := Lib.hid hsl
        have HS := Lib.hid hs
        have HXS := Lib.hid hxs
        clear hxl hsl hms hl1 hd1 hd2 hcM hs hxs
        obtain ⟨hyl, hyn⟩ := isVe_spec hve
        have hyll := hy.lenI
        have hln : n = l := by rw [← hyll, hyl, HSL.out]
        subst hln
        clear hyll hyl
        rw [HSL.out] at hvers
        have HV := Lib.hid hvers
        have hpos := versB_norm hp hvers
        have HR1 := Lib.hid (hr.symm.trans hr1)
        subst hr1
        clear hr hcr hvers hve
        go_enter Tryz.func42, Tryz.ntmps42
        go_wp2_with fail
        refine (hreg).mono ?_
        rintro e w2 ⟨rfl, hb2⟩
        have hB2 := hB1.trans (hb2.mono hB1.size)
        have k2 := k1.below hb2 k1.lt
        obtain ⟨q0, q1⟩ := k2.two
        clear k1 hB1 hb2
        go_wp2_with fail
        refine (hvs _ hB2).mono ?_
        rintro e w3 ⟨rfl, hb3⟩
        rw [HVE.out]
        clear q0 q1
        have hB3 := hB2.trans (hb3.mono hB2.size)
        have k3 := k2.below hb3 k2.lt
        obtain ⟨q0, q1⟩ := k3.two
        go_wp2_with fail
        refine (hvr _ hB3).mono ?_
        rintro e w4 ⟨rfl, hb4⟩
        rw [← HR.out]
        clear q0 q1
        have hB4 := hB3.trans (hb4.mono hB3.size)
        have k4 := k3.below hb4 k3.lt
        obtain ⟨q0, q1⟩ := k4.two
        go_wp2_with fail
        refine (l07Sandwich_any P A n c sq X cx xs Y cy ys _ hp hp2 hn6 (ha.below hB4) HS.out (hx.below hB4) HXS.out hcx (hy.below hB4) hyn hcy HP hpos).mono ?_
        rintro e w5 ⟨A5, c5, rfl, hM⟩
        go_wp2
        go_ret2
        exact a_list (by rw [sandR_ok HCM.out HVE.out HR1.out, HSL.out]) (hM.after hB4)
      · have HR1 := Lib.hid hr1
        have b0 : (r != 0) = true := code_ne hr1
        clear hr hr1 hve
        go_enter Tryz.func42, Tryz.ntmps42
        go_wp2_with fail
        refine (hreg).mono ?_
        rintro e w2 ⟨rfl, hb2⟩
        have hB2 := hB1.trans (hb2.mono hB1.size)
        have k2 := k1.below hb2 k1.lt
        obtain ⟨q0, q1⟩ := k2.two
        clear k1 hB1 hb2
        go_wp2_with fail
        refine (hvs _ hB2).mono ?_
        rintro e w3 ⟨rfl, hb3⟩
        rw [HVE.out]
        clear q0 q1
        have hB3 := hB2.trans (hb3.mono hB2.size)
        have k3 := k2.below hb3 k2.lt
        obtain ⟨q0, q1⟩ := k3.two
        go_wp2_with fail
        refine (hvr _ hB3).mono ?_
        rintro e w4 ⟨rfl, hb4⟩
        rw [← HR.out]
        clear q0 q1
        have hB4 := hB3.trans (hb4.mono hB3.size)
        have k4 := k3.below hb4 k3.lt
        obtain ⟨q0, q1⟩ := k4.two
        go_wp2
        go_ret2
        exact no_list (by rw [sandR_vr HCM.out HVE.out (by rw [← HR.out]; exact HR1.out), HR.out]) hB4
  · obtain ⟨r, hr⟩ : ∃ r, r = codeM P sq [xs] := ⟨_, rfl⟩
    have HR := Lib.hid hr
    have HR0 := Lib.hid hr0
    have b0 : (r != 0) = true := code_ne (by rw [hr]; exact hr0)
    have b0' : (r == 0) = false := by rw [hr]; simp [hr0]
    clear hr hr0
    go_enter Tryz.func42, Tryz.ntmps42
    go_wp2_with fail
    refine (hreg).mono ?_
    rintro e w2 ⟨rfl, hb2⟩
    rw [← HR.out]
    have hB2 := hB1.trans (hb2.mono hB1.size)
    have k2 := k1.below hb2 k1.lt
    obtain ⟨q0, q1⟩ := k2.two
    go_wp2
    go_ret2
    exact no_list (by rw [sandR_m HR0.out, HR.out]) hB2

theorem sandMR_bad {P : Int} {sq xs v : List Int} (h : ¬ codeR P sq [xs, v] = 0) : sandMR P sq xs v = ([], codeR P sq [xs, v]) := by
  by_cases h1 : codeM P sq [xs, v] = 0
  · rw [codeR_one h1] at h ⊢
    rw [sandMR_vr h1 (by rw [codeVr_ne h]; exact h), codeVr_ne h]
  · rw [sandMR_m h1]
    have : codeR P sq [xs, v] = codeM P sq [xs, v] := by unfold codeR; rw [if_neg h1]
    rw [this]
theorem unitR_5 {P : Int} {sq xs : List Int} (h : codeR P sq [xs] = 0) (h1 : rootF P (nrmL P sq xs) P.toNat 0 = none) : unitR P sq xs = ([], 5) := by
  cases hv : versB P sq sq.length xs
  · rw [unitR_ne (by rw [codeVr_5 h hv]; decide), codeVr_5 h hv]
  · exact unitR_none (codeVr_0 h hv) h1
theorem unitR_v {P : Int} {sq xs : List Int} (h : codeR P sq [xs] = 0) (hv : versB P sq sq.length xs = false) : unitR P sq xs = ([], 5) := by rw [unitR_ne (by rw [codeVr_5 h hv]; decide), codeVr_5 h hv]

set_option maxHeartbeats 3200000 in
set_option maxRecDepth 8000 in
theorem SandwichOfMultivector_any (P : Int) (A : Option Addr) (n c : Nat) (sq : List Int) (X : Option Addr) (m cx : Nat) (xs : List Int) (Y : Option Addr) (l cy : Nat) (ys : List Int) (w : World) (hn : n ≤ 1048576) (hm : m ≤ 1048576) (hl : l ≤ 1048576) (ha : Rd w A n (ints sq)) (hx : Rd w X m (ints xs)) (hcx : m ≤ cx) (hy : Rd w Y l (ints ys)) (hcy : l ≤ cy) :
    Calls Tryz.prog 39 #[.agg #[.int .i64 P, .slice A n c], .slice X m cx, .slice Y l cy] w fun e w' => ∃ (A' : Option Addr) (k c' : Nat), e = .returned (.tuple #[.slice A' k c', .int .i64 (sandMR P sq xs ys).2]) ∧ MkI w w' A' k c' (sandMR P sq xs ys).1 := by
  have hB0 : Below w.heap.size w (w.alloc (.cells #[.int .i64 P, .slice A n c] 28)) := (Below.refl _ _).alloc (Nat.le_refl _) _
  have k0 : Blk (w.alloc (.cells #[.int .i64 P, .slice A n c] 28)) w.heap.size 28 #[.int .i64 P, .slice A n c] := Blk.new _ _ _
  have hB1 : Below w.heap.size w ((w.alloc (.cells #[.int .i64 P, .slice A n c] 28)).alloc (.cells #[.slice X m cx, .slice Y l cy] 22)) := hB0.alloc (by simp) _
  have k1 : Blk ((w.alloc (.cells #[.int .i64 P, .slice A n c] 28)).alloc (.cells #[.slice X m cx, .slice Y l cy] 22)) w.heap.size 28 #[.int .i64 P, .slice A n c] := k0.alloc _
  have hreg := checkVersors_any P A (some ⟨w.heap.size + 1, 0, none⟩) none n c 2 2 0 0 sq [xs, ys] [] ((w.alloc (.cells #[.int .i64 P, .slice A n c] 28)).alloc (.cells #[.slice X m cx, .slice Y l cy] 22)) hn (by omega) (by omega) (ha.below hB1) (rdII_two (Blk.new_at (by simp)) (hx.below hB1) (hy.below hB1) hcx hcy) (all_two (by rw [hx.lenI]; exact hm) (by rw [hy.lenI]; exact hl)) (RdII.nil _ _) (by simp)
  rw [codeVs_nil] at hreg
  by_cases hr0 : codeR P sq [xs, ys] = 0
  · skip
    have hcM2 := (codeR_zero hr0).1
    obtain ⟨hcM, _, hMy⟩ := codeM_two hcM2
    have HCM := Lib.hid hcM2
    have HCR := Lib.hid ((codeR_one hcM2).symm.trans hr0)
    rw [hr0] at hreg
    clear hr0 hcM2
    obtain ⟨HP, hp, hp2, hd1, hd2, hs, hms⟩ := codeM_spec hcM
    have hxl := hx.lenI
    have hsl := ha.lenI
    obtain ⟨hl1, hxs⟩ := hms xs (by simp)
    have hn6 : n ≤ 6 := by omega
    have hmn : m = pw n := by rw [← hxl, hl1, hsl]
    subst hmn
    have HSL := Lib.hid hsl
    have HS := Lib.hid hs
    have HXS := Lib.hid hxs
    clear hxl hsl hms hl1 hd1 hd2 hcM hs hxs
    have hyl := (isMu_spec hMy).1
    have hyn := (isMu_spec hMy).2
    have hyll := hy.lenI
    have hln : l = pw n := by rw [← hyll, hyl, HSL.out]
    subst hln
    clear hyl hyll hMy
    cases hv : versB P sq n xs
    · have HV := Lib.hid hv
      clear hv
      go_enter Tryz.func39, Tryz.ntmps39
      go_wp2_with fail
      refine (hreg).mono ?_
      rintro e w2 ⟨rfl, hb2⟩
      have hB2 := hB1.trans (hb2.mono hB1.size)
      have k2 := k1.below hb2 k1.lt
      obtain ⟨q0, q1⟩ := k2.two
      clear k1 hB1 hb2
      go_wp2_with fail
      refine (isVersor_any P A n c sq X cx xs _ hp hp2 hn6 (ha.below hB2) HS.out (hx.below hB2) HXS.out hcx).mono ?_
      rintro e w3 ⟨rfl, hb3⟩
      rw [HV.out]
      clear q0 q1
      have hB3 := hB2.trans (hb3.mono hB2.size)
      have k3 := k2.below hb3 k2.lt
      obtain ⟨q0, q1⟩ := k3.two
      go_wp2
      go_ret2
      exact no_list (by rw [sandMR_vr HCM.out (by rw [codeVr_5 HCR.out (by rw [HSL.out]; exact HV.out)]; decide), codeVr_5 HCR.out (by rw [HSL.out]; exact HV.out)]) hB3
    · have HV := Lib.hid hv
      clear hv
      cases hev : evenL xs
      · have HEV := Lib.hid hev
        clear hev
        go_enter Tryz.func39, Tryz.ntmps39
        go_wp2_with fail
        refine (hreg).mono ?_
        rintro e w2 ⟨rfl, hb2⟩
        have hB2 := hB1.trans (hb2.mono hB1.size)
        have k2 := k1.below hb2 k1.lt
        obtain ⟨q0, q1⟩ := k2.two
        clear k1 hB1 hb2
        go_wp2_with fail
        refine (isVersor_any P A n c sq X cx xs _ hp hp2 hn6 (ha.below hB2) HS.out (hx.below hB2) HXS.out hcx).mono ?_
        rintro e w3 ⟨rfl, hb3⟩
        rw [HV.out]
        clear q0 q1
        have hB3 := hB2.trans (hb3.mono hB2.size)
        have k3 := k2.below hb3 k2.lt
        obtain ⟨q0, q1⟩ := k3.two
        go_wp2_with fail
        refine (isEven_any X (pw n) cx xs _ (pw_le hn6) (hx.below hB3)).mono ?_
        rintro e w4 ⟨rfl, hb4⟩
        rw [HEV.out]
        clear q0 q1
        have hB4 := hB3.trans (hb4.mono hB3.size)
        have k4 := k3.below hb4 k3.lt
        obtain ⟨q0, q1⟩ := k4.two
        clear hn
        have hn := hn6
        have hs := HS.out
        have hxs := HXS.out
        have HPW : pw n ≤ 65536 := Nat.le_trans (pw_le (show n ≤ 10 by omega)) (by decide)
        have HPW64 : pw n ≤ 64 := pw_le hn
        go_wp2_with fail
        refine (involute_any P A n c Y (pw n) cy ys _ hp hp2 HPW64 (hy.below hB4) hyn).mono ?_
        rintro e w5 ⟨Y2, cY2, rfl, hY2⟩
        clear q0 q1
        have hB5 := hB4.trans (hY2.b.mono hB4.size)
        have k5 := k4.below hY2.b k4.lt
        obtain ⟨q0, q1⟩ := k5.two
        go_wp2
        refine wp_obs 10 [[], [], [], [], [], [3, 4], [1, 2, 3, 4, 5], [0, 1, 2, 3, 4, 5, 6], [0, 1, 2, 3, 4, 5, 6, 7], []] [VIs (.agg #[.int .i64 P, .slice A n c]), VIs (.slice X (pw n) cx), VIs (.slice Y2 (pw n) cY2), VIs (.agg #[.int .i64 P, .slice A n c]), VIs (.slice X (pw n) cx), VSl w (pw n) (vinvL P sq xs), VRow 3 [xs, (invoL P ys), (vinvL P sq xs)], VSl w (pw n) (timesL P sq n [xs, (invoL P ys), (vinvL P sq xs)]), VSl w (pw n) (timesL P sq n [xs, (invoL P ys), (vinvL P sq xs)]), VIs (.int .i64 0)] (fun w' => Blk w' w.heap.size 28 #[.int .i64 P, .slice A n c] ∧ Below w.heap.size w w' ∧ Below w5.heap.size w5 w') (by kernel_rfl) (by kernel_rfl) (fun _ _ h hb => ⟨h.1.below hb h.1.lt, h.2.1.trans (hb.mono h.2.1.size), h.2.2.trans (hb.mono h.2.2.size)⟩) (⟨k5.drew, hB5.drew, (Below.refl _ _).drew⟩) (fun x => ?_)
        refine obs_step (Eq.trans (by simp only [List.getElem?_toArray, List.getElem?_cons_zero]; exact rfl) rfl) rfl (fun w' hS hV K hK => ?_) ?_
        · obtain ⟨q0, q1⟩ := hS.1.two
          go_simp
          exact hK.out _ _ _ rfl rfl rfl (Below.refl _ _)
        simp only [List.setIfInBounds_toArray, List.set_cons_zero, List.set_cons_succ]
        refine obs_step (Eq.trans (by simp only [List.getElem?_toArray, List.getElem?_cons_succ, List.getElem?_cons_zero]; exact rfl) rfl) rfl (fun w' hS hV K hK => ?_) ?_
        · obtain ⟨q0, q1⟩ := hS.1.two
          go_simp
          exact hK.out _ _ _ rfl rfl rfl (Below.refl _ _)
        simp only [List.setIfInBounds_toArray, List.set_cons_zero, List.set_cons_succ]
        refine obs_step (Eq.trans (by simp only [List.getElem?_toArray, List.getElem?_cons_succ, List.getElem?_cons_zero]; exact rfl) rfl) rfl (fun w' hS hV K hK => ?_) ?_
        · obtain ⟨q0, q1⟩ := hS.1.two
          go_simp
          exact hK.out _ _ _ rfl rfl rfl (Below.refl _ _)
        simp only [List.setIfInBounds_toArray, List.set_cons_zero, List.set_cons_succ]
        refine obs_step (Eq.trans (by simp only [List.getElem?_toArray, List.getElem?_cons_succ, List.getElem?_cons_zero]; exact rfl) rfl) rfl (fun w' hS hV K hK => ?_) ?_
        · obtain ⟨q0, q1⟩ := hS.1.two
          go_simp
          exact hK.out _ _ _ rfl rfl rfl (Below.refl _ _)
        simp only [List.setIfInBounds_toArray, List.set_cons_zero, List.set_cons_succ]
        refine obs_step (Eq.trans (by simp only [List.getElem?_toArray, List.getElem?_cons_succ, List.getElem?_cons_zero]; exact rfl) rfl) rfl (fun w' hS hV K hK => ?_) ?_
        · obtain ⟨q0, q1⟩ := hS.1.two
          go_simp
          exact hK.out _ _ _ rfl rfl rfl (Below.refl _ _)
        simp only [List.setIfInBounds_toArray, List.set_cons_zero, List.set_cons_succ]
        refine obs_step (Eq.trans (by simp only [List.getElem?_toArray, List.getElem?_cons_succ, List.getElem?_cons_zero]; exact rfl) rfl) rfl (fun w' hS hV K hK => ?_) ?_
        · simp only [List.mem_cons, List.not_mem_nil, or_false, forall_eq_or_imp, forall_eq, List.getD_cons_succ, List.getD_cons_zero, VIs, VSl, VRow, VAny] at hV
          obtain ⟨e3, e4⟩ := hV
          obtain ⟨q0, q1⟩ := hS.1.two
          go_simp
          refine (versorInverse_any P A n c sq _ _ xs _ hp hp2 hn (ha.below hS.2.1) hs (hx.below hS.2.1) hxs hcx).mono ?_
          rintro e w1 ⟨A2, c2, rfl, hM⟩
          exact hK.out _ _ _ rfl rfl ⟨_, _, rfl, hM.after hS.2.1⟩ hM.b
        simp only [List.setIfInBounds_toArray, List.set_cons_zero, List.set_cons_succ]
        refine obs_step (Eq.trans (by simp only [List.getElem?_toArray, List.getElem?_cons_succ, List.getElem?_cons_zero]; exact rfl) rfl) rfl (fun w' hS hV K hK => ?_) ?_
        · simp only [List.mem_cons, List.not_mem_nil, or_false, forall_eq_or_imp, forall_eq, List.getD_cons_succ, List.getD_cons_zero, VIs, VSl, VRow, VAny] at hV
          obtain ⟨e1, e2, e3, e4, ⟨A5, c5, e5, h5⟩⟩ := hV
          obtain ⟨q0, q1⟩ := hS.1.two
          go_simp
          exact hK.out _ _ _ rfl rfl ⟨_, _, rfl, rdII_three (Blk.new _ _ _) (Rd.below ((hx.below hS.2.1)) ((Below.refl _ _).alloc (Nat.le_refl _) _)) (Rd.below ((hY2.rd.below hS.2.2)) ((Below.refl _ _).alloc (Nat.le_refl _) _)) (Rd.below (h5.rd) ((Below.refl _ _).alloc (Nat.le_refl _) _)) (hcx) (hY2.2.cap) (h5.2.cap)⟩ ((Below.refl _ _).alloc (Nat.le_refl _) _)
        simp only [List.setIfInBounds_toArray, List.set_cons_zero, List.set_cons_succ]
        refine obs_step (Eq.trans (by simp only [List.getElem?_toArray, List.getElem?_cons_succ, List.getElem?_cons_zero]; exact rfl) rfl) rfl (fun w' hS hV K hK => ?_) ?_
        · simp only [List.mem_cons, List.not_mem_nil, or_false, forall_eq_or_imp, forall_eq, List.getD_cons_succ, List.getD_cons_zero, VIs, VSl, VRow, VAny] at hV
          obtain ⟨e0, e1, e2, e3, e4, ⟨A5, c5, e5, h5⟩, ⟨A6, c6, e6, h6⟩⟩ := hV
          obtain ⟨q0, q1⟩ := hS.1.two
          go_simp
          refine (times_any P A n c sq _ 3 _ [xs, (invoL P ys), (vinvL P sq xs)] _ hp hp2 hn (by omega) (ha.below hS.2.1) hs h6 (all_three ⟨hxs, Rd.lenI ((hx.below hS.2.1))⟩ ⟨(sgnL_nums (by omega) oddT hyn), Rd.lenI ((hY2.rd.below hS.2.2))⟩ ⟨(vinvL_nums hp sq xs), Rd.lenI (h5.rd)⟩)).mono ?_
          rintro e w1 ⟨A2, c2, rfl, hM⟩
          exact hK.out _ _ _ rfl rfl ⟨_, _, rfl, hM.after hS.2.1⟩ hM.b
        simp only [List.setIfInBounds_toArray, List.set_cons_zero, List.set_cons_succ]
        refine obs_step (Eq.trans (by simp only [List.getElem?_toArray, List.getElem?_cons_succ, List.getElem?_cons_zero]; exact rfl) rfl) rfl (fun w' hS hV K hK => ?_) ?_
        · simp only [List.mem_cons, List.not_mem_nil, or_false, forall_eq_or_imp, forall_eq, List.getD_cons_succ, List.getD_cons_zero, VIs, VSl, VRow, VAny] at hV
          obtain ⟨e0, e1, e2, e3, e4, ⟨A5, c5, e5, h5⟩, ⟨A6, c6, e6, h6⟩, ⟨A7, c7, e7, h7⟩⟩ := hV
          obtain ⟨q0, q1⟩ := hS.1.two
          go_simp
          exact hK.out _ _ _ rfl rfl ⟨_, _, rfl, h7⟩ (Below.refl _ _)
        simp only [List.setIfInBounds_toArray, List.set_cons_zero, List.set_cons_succ]
        refine obs_step (Eq.trans (by simp only [List.getElem?_toArray, List.getElem?_cons_succ, List.getElem?_cons_zero]; exact rfl) rfl) rfl (fun w' hS hV K hK => ?_) ?_
        · obtain ⟨q0, q1⟩ := hS.1.two
          go_simp
          exact hK.out _ _ _ rfl rfl rfl (Below.refl _ _)
        simp only [List.setIfInBounds_toArray, List.set_cons_zero, List.set_cons_succ]
        refine fun w' hS hV => ?_
        have hV := fun i hi => hV i (List.mem_range.1 hi)
        simp only [List.range, List.range.loop, List.mem_cons, List.not_mem_nil, or_false, forall_eq_or_imp, forall_eq, List.getD_cons_succ, List.getD_cons_zero, VIs, VSl, VRow, VAny] at hV
        obtain ⟨e0, e1, e2, e3, e4, ⟨A5, c5, e5, h5⟩, ⟨A6, c6, e6, h6⟩, ⟨A7, c7, e7, h7⟩, ⟨A8, c8, e8, h8⟩, e9⟩ := hV
        simp only [e0, e1, e2, e3, e4, e5, e6, e7, e8, e9]
        clear e0 e1 e2 e3 e4 e5 e6 e7 e8 e9
        refine wpAny_done (by kernel_rfl) ?_ _
        go_wp2
        go_ret2
        exact a_list (by rw [sandMR_ok HCM.out (codeVr_0 HCR.out (by rw [HSL.out]; exact HV.out))]; unfold sandM; rw [HEV.out, if_neg (by decide), timesL_three P sq n xs (invoL P ys) _ hx.lenI hxs]) h8
      · have HEV := Lib.hid hev
        clear hev
        go_enter Tryz.func39, Tryz.ntmps39
        go_wp2_with fail
        refine (hreg).mono ?_
        rintro e w2 ⟨rfl, hb2⟩
        have hB2 := hB1.trans (hb2.mono hB1.size)
        have k2 := k1.below hb2 k1.lt
        obtain ⟨q0, q1⟩ := k2.two
        clear k1 hB1 hb2
        go_wp2_with fail
        refine (isVersor_any P A n c sq X cx xs _ hp hp2 hn6 (ha.below hB2) HS.out (hx.below hB2) HXS.out hcx).mono ?_
        rintro e w3 ⟨rfl, hb3⟩
        rw [HV.out]
        clear q0 q1
        have hB3 := hB2.trans (hb3.mono hB2.size)
        have k3 := k2.below hb3 k2.lt
        obtain ⟨q0, q1⟩ := k3.two
        go_wp2_with fail
        refine (isEven_any X (pw n) cx xs _ (pw_le hn6) (hx.below hB3)).mono ?_
        rintro e w4 ⟨rfl, hb4⟩
        rw [HEV.out]
        clear q0 q1
        have hB4 := hB3.trans (hb4.mono hB3.size)
        have k4 := k3.below hb4 k3.lt
        obtain ⟨q0, q1⟩ := k4.two
        clear hn
        have hn := hn6
        have hs := HS.out
        have hxs := HXS.out
        have HPW : pw n ≤ 65536 := Nat.le_trans (pw_le (show n ≤ 10 by omega)) (by decide)
        have HPW64 : pw n ≤ 64 := pw_le hn
        go_wp2
        refine wp_obs 10 [[], [], [], [], [], [3, 4], [1, 2, 3, 4, 5], [0, 1, 2, 3, 4, 5, 6], [0, 1, 2, 3, 4, 5, 6, 7], []] [VIs (.agg #[.int .i64 P, .slice A n c]), VIs (.slice X (pw n) cx), VIs (.slice Y (pw n) cy), VIs (.agg #[.int .i64 P, .slice A n c]), VIs (.slice X (pw n) cx), VSl w (pw n) (vinvL P sq xs), VRow 3 [xs, ys, (vinvL P sq xs)], VSl w (pw n) (timesL P sq n [xs, ys, (vinvL P sq xs)]), VSl w (pw n) (timesL P sq n [xs, ys, (vinvL P sq xs)]), VIs (.int .i64 0)] (fun w' => Blk w' w.heap.size 28 #[.int .i64 P, .slice A n c] ∧ Below w.heap.size w w' ∧ Below w4.heap.size w4 w') (by kernel_rfl) (by kernel_rfl) (fun _ _ h hb => ⟨h.1.below hb h.1.lt, h.2.1.trans (hb.mono h.2.1.size), h.2.2.trans (hb.mono h.2.2.size)⟩) (⟨k4.drew, hB4.drew, (Below.refl _ _).drew⟩) (fun x => ?_)
        refine obs_step (Eq.trans (by simp only [List.getElem?_toArray, List.getElem?_cons_zero]; exact rfl) rfl) rfl (fun w' hS hV K hK => ?_) ?_
        · obtain ⟨q0, q1⟩ := hS.1.two
          go_simp
          exact hK.out _ _ _ rfl rfl rfl (Below.refl _ _)
        simp only [List.setIfInBounds_toArray, List.set_cons_zero, List.set_cons_succ]
        refine obs_step (Eq.trans (by simp only [List.getElem?_toArray, List.getElem?_cons_succ, List.getElem?_cons_zero]; exact rfl) rfl) rfl (fun w' hS hV K hK => ?_) ?_
        · obtain ⟨q0, q1⟩ := hS.1.two
          go_simp
          exact hK.out _ _ _ rfl rfl rfl (Below.refl _ _)
        simp only [List.setIfInBounds_toArray, List.set_cons_zero, List.set_cons_succ]
        refine obs_step (Eq.trans (by simp only [List.getElem?_toArray, List.getElem?_cons_succ, List.getElem?_cons_zero]; exact rfl) rfl) rfl (fun w' hS hV K hK => ?_) ?_
        · obtain ⟨q0, q1⟩ := hS.1.two
          go_simp
          exact hK.out _ _ _ rfl rfl rfl (Below.refl _ _)
        simp only [List.setIfInBounds_toArray, List.set_cons_zero, List.set_cons_succ]
        refine obs_step (Eq.trans (by simp only [List.getElem?_toArray, List.getElem?_cons_succ, List.getElem?_cons_zero]; exact rfl) rfl) rfl (fun w' hS hV K hK => ?_) ?_
        · obtain ⟨q0, q1⟩ := hS.1.two
          go_simp
          exact hK.out _ _ _ rfl rfl rfl (Below.refl _ _)
        simp only [List.setIfInBounds_toArray, List.set_cons_zero, List.set_cons_succ]
        refine obs_step (Eq.trans (by simp only [List.getElem?_toArray, List.getElem?_cons_succ, List.getElem?_cons_zero]; exact rfl) rfl) rfl (fun w' hS hV K hK => ?_) ?_
        · obtain ⟨q0, q1⟩ := hS.1.two
          go_simp
          exact hK.out _ _ _ rfl rfl rfl (Below.refl _ _)
        simp only [List.setIfInBounds_toArray, List.set_cons_zero, List.set_cons_succ]
        refine obs_step (Eq.trans (by simp only [List.getElem?_toArray, List.getElem?_cons_succ, List.getElem?_cons_zero]; exact rfl) rfl) rfl (fun w' hS hV K hK => ?_) ?_
        · simp only [List.mem_cons, List.not_mem_nil, or_false, forall_eq_or_imp, forall_eq, List.getD_cons_succ, List.getD_cons_zero, VIs, VSl, VRow, VAny] at hV
          obtain ⟨e3, e4⟩ := hV
          obtain ⟨q0, q1⟩ := hS.1.two
          go_simp
          refine (versorInverse_any P A n c sq _ _ xs _ hp hp2 hn (ha.below hS.2.1) hs (hx.below hS.2.1) hxs hcx).mono ?_
          rintro e w1 ⟨A2, c2, rfl, hM⟩
          exact hK.out _ _ _ rfl rfl ⟨_, _, rfl, hM.after hS.2.1⟩ hM.b
        simp only [List.setIfInBounds_toArray, List.set_cons_zero, List.set_cons_succ]
        refine obs_step (Eq.trans (by simp only [List.getElem?_toArray, List.getElem?_cons_succ, List.getElem?_cons_zero]; exact rfl) rfl) rfl (fun w' hS hV K hK => ?_) ?_
        · simp only [List.mem_cons, List.not_mem_nil, or_false, forall_eq_or_imp, forall_eq, List.getD_cons_succ, List.getD_cons_zero, VIs, VSl, VRow, VAny] at hV
          obtain ⟨e1, e2, e3, e4, ⟨A5, c5, e5, h5⟩⟩ := hV
          obtain ⟨q0, q1⟩ := hS.1.two
          go_simp
          exact hK.out _ _ _ rfl rfl ⟨_, _, rfl, rdII_three (Blk.new _ _ _) (Rd.below ((hx.below hS.2.1)) ((Below.refl _ _).alloc (Nat.le_refl _) _)) (Rd.below ((hy.below hS.2.1)) ((Below.refl _ _).alloc (Nat.le_refl _) _)) (Rd.below (h5.rd) ((Below.refl _ _).alloc (Nat.le_refl _) _)) (hcx) (hcy) (h5.2.cap)⟩ ((Below.refl _ _).alloc (Nat.le_refl _) _)
        simp only [List.setIfInBounds_toArray, List.set_cons_zero, List.set_cons_succ]
        refine obs_step (Eq.trans (by simp only [List.getElem?_toArray, List.getElem?_cons_succ, List.getElem?_cons_zero]; exact rfl) rfl) rfl (fun w' hS hV K hK => ?_) ?_
        · simp only [List.mem_cons, List.not_mem_nil, or_false, forall_eq_or_imp, forall_eq, List.getD_cons_succ, List.getD_cons_zero, VIs, VSl, VRow, VAny] at hV
          obtain ⟨e0, e1, e2, e3, e4, ⟨A5, c5, e5, h5⟩, ⟨A6, c6, e6, h6⟩⟩ := hV
          obtain ⟨q0, q1⟩ := hS.1.two
          go_simp
          refine (times_any P A n c sq _ 3 _ [xs, ys, (vinvL P sq xs)] _ hp hp2 hn (by omega) (ha.below hS.2.1) hs h6 (all_three ⟨hxs, Rd.lenI ((hx.below hS.2.1))⟩ ⟨hyn, Rd.lenI ((hy.below hS.2.1))⟩ ⟨(vinvL_nums hp sq xs), Rd.lenI (h5.rd)⟩)).mono ?_
          rintro e w1 ⟨A2, c2, rfl, hM⟩
          exact hK.out _ _ _ rfl rfl ⟨_, _, rfl, hM.after hS.2.1⟩ hM.b
        simp only [List.setIfInBounds_toArray, List.set_cons_zero, List.set_cons_succ]
        refine obs_step (Eq.trans (by simp only [List.getElem?_toArray, List.getElem?_cons_succ, List.getElem?_cons_zero]; exact rfl) rfl) rfl (fun w' hS hV K hK => ?_) ?_
        · simp only [List.mem_cons, List.not_mem_nil, or_false, forall_eq_or_imp, forall_eq, List.getD_cons_succ, List.getD_cons_zero, VIs, VSl, VRow, VAny] at hV
          obtain ⟨e0, e1, e2, e3, e4, ⟨A5, c5, e5, h5⟩, ⟨A6, c6, e6, h6⟩, ⟨A7, c7, e7, h7⟩⟩ := hV
          obtain ⟨q0, q1⟩ := hS.1.two
          go_simp
          exact hK.out _ _ _ rfl rfl ⟨_, _, rfl, h7⟩ (Below.refl _ _)
        simp only [List.setIfInBounds_toArray, List.set_cons_zero, List.set_cons_succ]
        refine obs_step (Eq.trans (by simp only [List.getElem?_toArray, List.getElem?_cons_succ, List.getElem?_cons_zero]; exact rfl) rfl) rfl (fun w' hS hV K hK => ?_) ?_
        · obtain ⟨q0, q1⟩ := hS.1.two
          go_simp
          exact hK.out _ _ _ rfl rfl rfl (Below.refl _ _)
        simp only [List.setIfInBounds_toArray, List.set_cons_zero, List.set_cons_succ]
        refine fun w' hS hV => ?_
        have hV := fun i hi => hV i (List.mem_range.1 hi)
        simp only [List.range, List.range.loop, List.mem_cons, List.not_mem_nil, or_false, forall_eq_or_imp, forall_eq, List.getD_cons_succ, List.getD_cons_zero, VIs, VSl, VRow, VAny] at hV
        obtain ⟨e0, e1, e2, e3, e4, ⟨A5, c5, e5, h5⟩, ⟨A6, c6, e6, h6⟩, ⟨A7, c7, e7, h7⟩, ⟨A8, c8, e8, h8⟩, e9⟩ := hV
        simp only [e0, e1, e2, e3, e4, e5, e6, e7, e8, e9]
        clear e0 e1 e2 e3 e4 e5 e6 e7 e8 e9
        refine wpAny_done (by kernel_rfl) ?_ _
        go_wp2
        go_ret2
        exact a_list (by rw [sandMR_ok HCM.out (codeVr_0 HCR.out (by rw [HSL.out]; exact HV.out))]; unfold sandM; rw [HEV.out, if_pos rfl, timesL_three P sq n xs ys _ hx.lenI hxs]) h8
  · obtain ⟨r, hr⟩ : ∃ r, r = codeR P sq [xs, ys] := ⟨_, rfl⟩
    have HR := Lib.hid hr
    have HR0 := Lib.hid hr0
    have b0 : (r != 0) = true := code_ne (by rw [hr]; exact hr0)
    have b0' : (r == 0) = false := by rw [hr]; simp [hr0]
    clear hr hr0
    go_enter Tryz.func39, Tryz.ntmps39
    go_wp2_with fail
    refine (hreg).mono ?_
    rintro e w2 ⟨rfl, hb2⟩
    rw [← HR.out]
    have hB2 := hB1.trans (hb2.mono hB1.size)
    have k2 := k1.below hb2 k1.lt
    obtain ⟨q0, q1⟩ := k2.two
    go_wp2
    go_ret2
    exact no_list (by rw [sandMR_bad HR0.out, HR.out]) hB2

set_option maxHeartbeats 3200000 in
set_option maxRecDepth 8000 in
theorem specSandwichOfMultivector_any (P : Int) (A : Option Addr) (n c : Nat) (sq : List Int) (X : Option Addr) (m cx : Nat) (xs : List Int) (Y : Option Addr) (l cy : Nat) (ys : List Int) (w : World) (hn : n ≤ 1048576) (hm : m ≤ 1048576) (hl : l ≤ 1048576) (ha : Rd w A n (ints sq)) (hx : Rd w X m (ints xs)) (hcx : m ≤ cx) (hy : Rd w Y l (ints ys)) (hcy : l ≤ cy) :
    Calls Tryz.prog 38 #[.agg #[.int .i64 P, .slice A n c], .slice X m cx, .slice Y l cy] w fun e w' => ∃ (A' : Option Addr) (k c' : Nat), e = .returned (.tuple #[.slice A' k c', .int .i64 (sandMR P sq xs ys).2]) ∧ MkI w w' A' k c' (sandMR P sq xs ys).1 := by
  have hB0 : Below w.heap.size w (w.alloc (.cells #[.int .i64 P, .slice A n c] 28)) := (Below.refl _ _).alloc (Nat.le_refl _) _
  have k0 : Blk (w.alloc (.cells #[.int .i64 P, .slice A n c] 28)) w.heap.size 28 #[.int .i64 P, .slice A n c] := Blk.new _ _ _
  have hB1 : Below w.heap.size w ((w.alloc (.cells #[.int .i64 P, .slice A n c] 28)).alloc (.cells #[.slice X m cx, .slice Y l cy] 22)) := hB0.alloc (by simp) _
  have k1 : Blk ((w.alloc (.cells #[.int .i64 P, .slice A n c] 28)).alloc (.cells #[.slice X m cx, .slice Y l cy] 22)) w.heap.size 28 #[.int .i64 P, .slice A n c] := k0.alloc _
  have hreg := l04Code_any P A (some ⟨w.heap.size + 1, 0, none⟩) n c 2 2 sq [xs, ys] ((w.alloc (.cells #[.int .i64 P, .slice A n c] 28)).alloc (.cells #[.slice X m cx, .slice Y l cy] 22)) hn (by omega) (ha.below hB1) (rdII_two (Blk.new_at (by simp)) (hx.below hB1) (hy.below hB1) hcx hcy) (all_two (by rw [hx.lenI]; exact hm) (by rw [hy.lenI]; exact hl))
  have hvr := fun w' (hb : Below w.heap.size w w') => l07Code_any P A n c sq X m cx xs w' hn hm (ha.below hb) (hx.below hb) hcx
  by_cases hr0 : codeM P sq [xs, ys] = 0
  · skip
    rw [hr0] at hreg
    have HCM := Lib.hid hr0
    clear hr0
    obtain ⟨r, hr⟩ : ∃ r, r = codeVr P sq xs := ⟨_, rfl⟩
    have HR := Lib.hid hr
    by_cases hr1 : r = 0
    · obtain ⟨hcr, hvers⟩ := codeVr_zero (hr.symm.trans hr1)
      obtain ⟨hcM, _, hMy⟩ := codeM_two HCM.out
      obtain ⟨HP, hp, hp2, hd1, hd2, hs, hms⟩ := codeM_spec hcM
      have hxl := hx.lenI
      have hsl := ha.lenI
      obtain ⟨hl1, hxs⟩ := hms xs (by simp)
      have hn6 : n ≤ 6 := by omega
      have hmn : m = pw n := by rw [← hxl, hl1, hsl]
      subst hmn
      have HSL := Lib.hid hsl
      have HS := Lib.hid hs
      have HXS := Lib.hid hxs
      clear hxl hsl hms hl1 hd1 hd2 hcM hs hxs
      have hyl := (isMu_spec hMy).1
      have hyn := (isMu_spec hMy).2
      have hyll := hy.lenI
      have hln : l = pw n := by rw [← hyll, hyl, HSL.out]
      subst hln
      clear hyl hyll hMy
      rw [HSL.out] at hvers
      have hpos := versB_norm hp hvers
      have HR1 := Lib.hid (hr.symm.trans hr1)
      subst hr1
      clear hr hcr hvers
      cases hev : evenL xs
      · have HEV := Lib.hid hev
        clear hev
        go_enter Tryz.func38, Tryz.ntmps38
        go_wp2_with fail
        refine (hreg).mono ?_
        rintro e w2 ⟨rfl, hb2⟩
        have hB2 := hB1.trans (hb2.mono hB1.size)
        have k2 := k1.below hb2 k1.lt
        obtain ⟨q0, q1⟩ := k2.two
        clear k1 hB1 hb2
        go_wp2_with fail
        refine (hvr _ hB2).mono ?_
        rintro e w3 ⟨rfl, hb3⟩
        rw [← HR.out]
        clear q0 q1
        have hB3 := hB2.trans (hb3.mono hB2.size)
        have k3 := k2.below hb3 k2.lt
        obtain ⟨q0, q1⟩ := k3.two
        go_wp2_with fail
        refine (l04Even_any P A n c X cx xs _ HP hn6 (hx.below hB3) HXS.out).mono ?_
        rintro e w4 ⟨rfl, hb4⟩
        rw [HEV.out]
        clear q0 q1
        have hB4 := hB3.trans (hb4.mono hB3.size)
        have k4 := k3.below hb4 k3.lt
        obtain ⟨q0, q1⟩ := k4.two
        clear hn
        have hn := hn6
        have hs := HS.out
        have hxs := HXS.out
        have HPW : pw n ≤ 65536 := Nat.le_trans (pw_le (show n ≤ 10 by omega)) (by decide)
        have HPW64 : pw n ≤ 64 := pw_le hn
        go_wp2_with fail
        refine (l04Involute_any P A n c Y (pw n) cy ys _ hp hp2 HPW64 (hy.below hB4) hyn).mono ?_
        rintro e w5 ⟨Y2, cY2, rfl, hY2⟩
        clear q0 q1
        have hB5 := hB4.trans (hY2.b.mono hB4.size)
        have k5 := k4.below hY2.b k4.lt
        obtain ⟨q0, q1⟩ := k5.two
        go_wp2
        refine wp_obs 11 [[], [], [], [], [1, 2, 3], [], [], [5, 6], [0, 1, 2, 3, 4, 5, 6, 7], [0, 1, 2, 3, 4, 5, 6, 7, 8], []] [VIs (.agg #[.int .i64 P, .slice A n c]), VIs (.agg #[.int .i64 P, .slice A n c]), VIs (.slice X (pw n) cx), VIs (.slice Y2 (pw n) cY2), VSl w (pw n) (mulL P sq xs (invoL P ys)), VIs (.agg #[.int .i64 P, .slice A n c]), VIs (.slice X (pw n) cx), VSl w (pw n) (vinvL P sq xs), VSl w (pw n) (mulL P sq (mulL P sq xs (invoL P ys)) (vinvL P sq xs)), VSl w (pw n) (mulL P sq (mulL P sq xs (invoL P ys)) (vinvL P sq xs)), VIs (.int .i64 0)] (fun w' => Blk w' w.heap.size 28 #[.int .i64 P, .slice A n c] ∧ Below w.heap.size w w' ∧ Below w5.heap.size w5 w') (by kernel_rfl) (by kernel_rfl) (fun _ _ h hb => ⟨h.1.below hb h.1.lt, h.2.1.trans (hb.mono h.2.1.size), h.2.2.trans (hb.mono h.2.2.size)⟩) (⟨k5.drew, hB5.drew, (Below.refl _ _).drew⟩) (fun x => ?_)
        refine obs_step (Eq.trans (by simp only [List.getElem?_toArray, List.getElem?_cons_zero]; exact rfl) rfl) rfl (fun w' hS hV K hK => ?_) ?_
        · obtain ⟨q0, q1⟩ := hS.1.two
          go_simp
          exact hK.out _ _ _ rfl rfl rfl (Below.refl _ _)
        simp only [List.setIfInBounds_toArray, List.set_cons_zero, List.set_cons_succ]
        refine obs_step (Eq.trans (by simp only [List.getElem?_toArray, List.getElem?_cons_succ, List.getElem?_cons_zero]; exact rfl) rfl) rfl (fun w' hS hV K hK => ?_) ?_
        · obtain ⟨q0, q1⟩ := hS.1.two
          go_simp
          exact hK.out _ _ _ rfl rfl rfl (Below.refl _ _)
        simp only [List.setIfInBounds_toArray, List.set_cons_zero, List.set_cons_succ]
        refine obs_step (Eq.trans (by simp only [List.getElem?_toArray, List.getElem?_cons_succ, List.getElem?_cons_zero]; exact rfl) rfl) rfl (fun w' hS hV K hK => ?_) ?_
        · obtain ⟨q0, q1⟩ := hS.1.two
          go_simp
          exact hK.out _ _ _ rfl rfl rfl (Below.refl _ _)
        simp only [List.setIfInBounds_toArray, List.set_cons_zero, List.set_cons_succ]
        refine obs_step (Eq.trans (by simp only [List.getElem?_toArray, List.getElem?_cons_succ, List.getElem?_cons_zero]; exact rfl) rfl) rfl (fun w' hS hV K hK => ?_) ?_
        · obtain ⟨q0, q1⟩ := hS.1.two
          go_simp
          exact hK.out _ _ _ rfl rfl rfl (Below.refl _ _)
        simp only [List.setIfInBounds_toArray, List.set_cons_zero, List.set_cons_succ]
        refine obs_step (Eq.trans (by simp only [List.getElem?_toArray, List.getElem?_cons_succ, List.getElem?_cons_zero]; exact rfl) rfl) rfl (fun w' hS hV K hK => ?_) ?_
        · simp only [List.mem_cons, List.not_mem_nil, or_false, forall_eq_or_imp, forall_eq, List.getD_cons_succ, List.getD_cons_zero, VIs, VSl, VAny] at hV
          obtain ⟨e1, e2, e3⟩ := hV
          obtain ⟨q0, q1⟩ := hS.1.two
          go_simp
          refine (l04Times_any P A n c sq _ _ xs _ _ (invoL P ys) _ hp hp2 hn (ha.below hS.2.1) hs (hx.below hS.2.1) hxs (hY2.rd.below hS.2.2) (sgnL_nums (by omega) oddT hyn)).mono ?_
          rintro e w1 ⟨A2, c2, rfl, hM⟩
          exact hK.out _ _ _ rfl rfl ⟨_, _, rfl, hM.after hS.2.1⟩ hM.b
        simp only [List.setIfInBounds_toArray, List.set_cons_zero, List.set_cons_succ]
        refine obs_step (Eq.trans (by simp only [List.getElem?_toArray, List.getElem?_cons_succ, List.getElem?_cons_zero]; exact rfl) rfl) rfl (fun w' hS hV K hK => ?_) ?_
        · obtain ⟨q0, q1⟩ := hS.1.two
          go_simp
          exact hK.out _ _ _ rfl rfl rfl (Below.refl _ _)
        simp only [List.setIfInBounds_toArray, List.set_cons_zero, List.set_cons_succ]
        refine obs_step (Eq.trans (by simp only [List.getElem?_toArray, List.getElem?_cons_succ, List.getElem?_cons_zero]; exact rfl) rfl) rfl (fun w' hS hV K hK => ?_) ?_
        · obtain ⟨q0, q1⟩ := hS.1.two
          go_simp
          exact hK.out _ _ _ rfl rfl rfl (Below.refl _ _)
        simp only [List.setIfInBounds_toArray, List.set_cons_zero, List.set_cons_succ]
        refine obs_step (Eq.trans (by simp only [List.getElem?_toArray, List.getElem?_cons_succ, List.getElem?_cons_zero]; exact rfl) rfl) rfl (fun w' hS hV K hK => ?_) ?_
        · simp only [List.mem_cons, List.not_mem_nil, or_false, forall_eq_or_imp, forall_eq, List.getD_cons_succ, List.getD_cons_zero, VIs, VSl, VAny] at hV
          obtain ⟨e5, e6⟩ := hV
          obtain ⟨q0, q1⟩ := hS.1.two
          go_simp
          refine (l07Inverse_any P A n c sq _ _ xs _ hp hp2 hn (ha.below hS.2.1) hs (hx.below hS.2.1) hxs hcx HP hpos).mono ?_
          rintro e w1 ⟨A2, c2, rfl, hM⟩
          exact hK.out _ _ _ rfl rfl ⟨_, _, rfl, hM.after hS.2.1⟩ hM.b
        simp only [List.setIfInBounds_toArray, List.set_cons_zero, List.set_cons_succ]
        refine obs_step (Eq.trans (by simp only [List.getElem?_toArray, List.getElem?_cons_succ, List.getElem?_cons_zero]; exact rfl) rfl) rfl (fun w' hS hV K hK => ?_) ?_
        · simp only [List.mem_cons, List.not_mem_nil, or_false, forall_eq_or_imp, forall_eq, List.getD_cons_succ, List.getD_cons_zero, VIs, VSl, VAny] at hV
          obtain ⟨e0, e1, e2, e3, ⟨A4, c4, e4, h4⟩, e5, e6, ⟨A7, c7, e7, h7⟩⟩ := hV
          obtain ⟨q0, q1⟩ := hS.1.two
          go_simp
          refine (l04Times_any P A n c sq _ _ (mulL P sq xs (invoL P ys)) _ _ (vinvL P sq xs) _ hp hp2 hn (ha.below hS.2.1) hs h4.rd (mulL_nums (by omega) sq xs (invoL P ys)) h7.rd (vinvL_nums hp sq xs)).mono ?_
          rintro e w1 ⟨A2, c2, rfl, hM⟩
          exact hK.out _ _ _ rfl rfl ⟨_, _, rfl, hM.after hS.2.1⟩ hM.b
        simp only [List.setIfInBounds_toArray, List.set_cons_zero, List.set_cons_succ]
        refine obs_step (Eq.trans (by simp only [List.getElem?_toArray, List.getElem?_cons_succ, List.getElem?_cons_zero]; exact rfl) rfl) rfl (fun w' hS hV K hK => ?_) ?_
        · simp only [List.mem_cons, List.not_mem_nil, or_false, forall_eq_or_imp, forall_eq, List.getD_cons_succ, List.getD_cons_zero, VIs, VSl, VAny] at hV
          obtain ⟨e0, e1, e2, e3, ⟨A4, c4, e4, h4⟩, e5, e6, ⟨A7, c7, e7, h7⟩, ⟨A8, c8, e8, h8⟩⟩ := hV
          obtain ⟨q0, q1⟩ := hS.1.two
          go_simp
          exact hK.out _ _ _ rfl rfl ⟨_, _, rfl, h8⟩ (Below.refl _ _)
        simp only [List.setIfInBounds_toArray, List.set_cons_zero, List.set_cons_succ]
        refine obs_step (Eq.trans (by simp only [List.getElem?_toArray, List.getElem?_cons_succ, List.getElem?_cons_zero]; exact rfl) rfl) rfl (fun w' hS hV K hK => ?_) ?_
        · obtain ⟨q0, q1⟩ := hS.1.two
          go_simp
          exact hK.out _ _ _ rfl rfl rfl (Below.refl _ _)
        simp only [List.setIfInBounds_toArray, List.set_cons_zero, List.set_cons_succ]
        refine fun w' hS hV => ?_
        have hV := fun i hi => hV i (List.mem_range.1 hi)
        simp only [List.range, List.range.loop, List.mem_cons, List.not_mem_nil, or_false, forall_eq_or_imp, forall_eq, List.getD_cons_succ, List.getD_cons_zero, VIs, VSl, VAny] at hV
        obtain ⟨e0, e1, e2, e3, ⟨A4, c4, e4, h4⟩, e5, e6, ⟨A7, c7, e7, h7⟩, ⟨A8, c8, e8, h8⟩, ⟨A9, c9, e9, h9⟩, e10⟩ := hV
        simp only [e0, e1, e2, e3, e4, e5, e6, e7, e8, e9, e10]
        clear e0 e1 e2 e3 e4 e5 e6 e7 e8 e9 e10
        refine wpAny_done (by kernel_rfl) ?_ _
        go_wp2
        go_ret2
        exact a_list (by rw [sandMR_ok HCM.out HR1.out]; unfold sandM; rw [HEV.out, if_neg (by decide)]) h9
      · have HEV := Lib.hid hev
        clear hev
        go_enter Tryz.func38, Tryz.ntmps38
        go_wp2_with fail
        refine (hreg).mono ?_
        rintro e w2 ⟨rfl, hb2⟩
        have hB2 := hB1.trans (hb2.mono hB1.size)
        have k2 := k1.below hb2 k1.lt
        obtain ⟨q0, q1⟩ := k2.two
        clear k1 hB1 hb2
        go_wp2_with fail
        refine (hvr _ hB2).mono ?_
        rintro e w3 ⟨rfl, hb3⟩
        rw [← HR.out]
        clear q0 q1
        have hB3 := hB2.trans (hb3.mono hB2.size)
        have k3 := k2.below hb3 k2.lt
        obtain ⟨q0, q1⟩ := k3.two
        go_wp2_with fail
        refine (l04Even_any P A n c X cx xs _ HP hn6 (hx.below hB3) HXS.out).mono ?_
        rintro e w4 ⟨rfl, hb4⟩
        rw [HEV.out]
        clear q0 q1
        have hB4 := hB3.trans (hb4.mono hB3.size)
        have k4 := k3.below hb4 k3.lt
        obtain ⟨q0, q1⟩ := k4.two
        clear hn
        have hn := hn6
        have hs := HS.out
        have hxs := HXS.out
        have HPW : pw n ≤ 65536 := Nat.le_trans (pw_le (show n ≤ 10 by omega)) (by decide)
        have HPW64 : pw n ≤ 64 := pw_le hn
        go_wp2
        refine wp_obs 11 [[], [], [], [], [1, 2, 3], [], [], [5, 6], [0, 1, 2, 3, 4, 5, 6, 7], [0, 1, 2, 3, 4, 5, 6, 7, 8], []] [VIs (.agg #[.int .i64 P, .slice A n c]), VIs (.agg #[.int .i64 P, .slice A n c]), VIs (.slice X (pw n) cx), VIs (.slice Y (pw n) cy), VSl w (pw n) (mulL P sq xs ys), VIs (.agg #[.int .i64 P, .slice A n c]), VIs (.slice X (pw n) cx), VSl w (pw n) (vinvL P sq xs), VSl w (pw n) (mulL P sq (mulL P sq xs ys) (vinvL P sq xs)), VSl w (pw n) (mulL P sq (mulL P sq xs ys) (vinvL P sq xs)), VIs (.int .i64 0)] (fun w' => Blk w' w.heap.size 28 #[.int .i64 P, .slice A n c] ∧ Below w.heap.size w w' ∧ Below w4.heap.size w4 w') (by kernel_rfl) (by kernel_rfl) (fun _ _ h hb => ⟨h.1.below hb h.1.lt, h.2.1.trans (hb.mono h.2.1.size), h.2.2.trans (hb.mono h.2.2.size)⟩) (⟨k4.drew, hB4.drew, (Below.refl _ _).drew⟩) (fun x => ?_)
        refine obs_step (Eq.trans (by simp only [List.getElem?_toArray, List.getElem?_cons_zero]; exact rfl) rfl) rfl (fun w' hS hV K hK => ?_) ?_
        · obtain ⟨q0, q1⟩ := hS.1.two
          go_simp
          exact hK.out _ _ _ rfl rfl rfl (Below.refl _ _)
        simp only [List.setIfInBounds_toArray, List.set_cons_zero, List.set_cons_succ]
        refine obs_step (Eq.trans (by simp only [List.getElem?_toArray, List.getElem?_cons_succ, List.getElem?_cons_zero]; exact rfl) rfl) rfl (fun w' hS hV K hK => ?_) ?_
        · obtain ⟨q0, q1⟩ := hS.1.two
          go_simp
          exact hK.out _ _ _ rfl rfl rfl (Below.refl _ _)
        simp only [List.setIfInBounds_toArray, List.set_cons_zero, List.set_cons_succ]
        refine obs_step (Eq.trans (by simp only [List.getElem?_toArray, List.getElem?_cons_succ, List.getElem?_cons_zero]; exact rfl) rfl) rfl (fun w' hS hV K hK => ?_) ?_
        · obtain ⟨q0, q1⟩ := hS.1.two
          go_simp
          exact hK.out _ _ _ rfl rfl rfl (Below.refl _ _)
        simp only [List.setIfInBounds_toArray, List.set_cons_zero, List.set_cons_succ]
        refine obs_step (Eq.trans (by simp only [List.getElem?_toArray, List.getElem?_cons_succ, List.getElem?_cons_zero]; exact rfl) rfl) rfl (fun w' hS hV K hK => ?_) ?_
        · obtain ⟨q0, q1⟩ := hS.1.two
          go_simp
          exact hK.out _ _ _ rfl rfl rfl (Below.refl _ _)
        simp only [List.setIfInBounds_toArray, List.set_cons_zero, List.set_cons_succ]
        refine obs_step (Eq.trans (by simp only [List.getElem?_toArray, List.getElem?_cons_succ, List.getElem?_cons_zero]; exact rfl) rfl) rfl (fun w' hS hV K hK => ?_) ?_
        · simp only [List.mem_cons, List.not_mem_nil, or_false, forall_eq_or_imp, forall_eq, List.getD_cons_succ, List.getD_cons_zero, VIs, VSl, VAny] at hV
          obtain ⟨e1, e2, e3⟩ := hV
          obtain ⟨q0, q1⟩ := hS.1.two
          go_simp
          refine (l04Times_any P A n c sq _ _ xs _ _ ys _ hp hp2 hn (ha.below hS.2.1) hs (hx.below hS.2.1) hxs (hy.below hS.2.1) hyn).mono ?_
          rintro e w1 ⟨A2, c2, rfl, hM⟩
          exact hK.out _ _ _ rfl rfl ⟨_, _, rfl, hM.after hS.2.1⟩ hM.b
        simp only [List.setIfInBounds_toArray, List.set_cons_zero, List.set_cons_succ]
        refine obs_step (Eq.trans (by simp only [List.getElem?_toArray, List.getElem?_cons_succ, List.getElem?_cons_zero]; exact rfl) rfl) rfl (fun w' hS hV K hK => ?_) ?_
        · obtain ⟨q0, q1⟩ := hS.1.two
          go_simp
          exact hK.out _ _ _ rfl rfl rfl (Below.refl _ _)
        simp only [List.setIfInBounds_toArray, List.set_cons_zero, List.set_cons_succ]
        refine obs_step (Eq.trans (by simp only [List.getElem?_toArray, List.getElem?_cons_succ, List.getElem?_cons_zero]; exact rfl) rfl) rfl (fun w' hS hV K hK => ?_) ?_
        · obtain ⟨q0, q1⟩ := hS.1.two
          go_simp
          exact hK.out _ _ _ rfl rfl rfl (Below.refl _ _)
        simp only [List.setIfInBounds_toArray, List.set_cons_zero, List.set_cons_succ]
        refine obs_step (Eq.trans (by simp only [List.getElem?_toArray, List.getElem?_cons_succ, List.getElem?_cons_zero]; exact rfl) rfl) rfl (fun w' hS hV K hK => ?_) ?_
        · simp only [List.mem_cons, List.not_mem_nil, or_false, forall_eq_or_imp, forall_eq, List.getD_cons_succ, List.getD_cons_zero, VIs, VSl, VAny] at hV
          obtain ⟨e5, e6⟩ := hV
          obtain ⟨q0, q1⟩ := hS.1.two
          go_simp
          refine (l07Inverse_any P A n c sq _ _ xs _ hp hp2 hn (ha.below hS.2.1) hs (hx.below hS.2.1) hxs hcx HP hpos).mono ?_
          rintro e w1 ⟨A2, c2, rfl, hM⟩
          exact hK.out _ _ _ rfl rfl ⟨_, _, rfl, hM.after hS.2.1⟩ hM.b
        simp only [List.setIfInBounds_toArray, List.set_cons_zero, List.set_cons_succ]
        refine obs_step (Eq.trans (by simp only [List.getElem?_toArray, List.getElem?_cons_succ, List.getElem?_cons_zero]; exact rfl) rfl) rfl (fun w' hS hV K hK => ?_) ?_
        · simp only [List.mem_cons, List.not_mem_nil, or_false, forall_eq_or_imp, forall_eq, List.getD_cons_succ, List.getD_cons_zero, VIs, VSl, VAny] at hV
          obtain ⟨e0, e1, e2, e3, ⟨A4, c4, e4, h4⟩, e5, e6, ⟨A7, c7, e7, h7⟩⟩ := hV
          obtain ⟨q0, q1⟩ := hS.1.two
          go_simp
          refine (l04Times_any P A n c sq _ _ (mulL P sq xs ys) _ _ (vinvL P sq xs) _ hp hp2 hn (ha.below hS.2.1) hs h4.rd (mulL_nums (by omega) sq xs ys) h7.rd (vinvL_nums hp sq xs)).mono ?_
          rintro e w1 ⟨A2, c2, rfl, hM⟩
          exact hK.out _ _ _ rfl rfl ⟨_, _, rfl, hM.after hS.2.1⟩ hM.b
        simp only [List.setIfInBounds_toArray, List.set_cons_zero, List.set_cons_succ]
        refine obs_step (Eq.trans (by simp only [List.getElem?_toArray, List.getElem?_cons_succ, List.getElem?_cons_zero]; exact rfl) rfl) rfl (fun w' hS hV K hK => ?_) ?_
        · simp only [List.mem_cons, List.not_mem_nil, or_false, forall_eq_or_imp, forall_eq, List.getD_cons_succ, List.getD_cons_zero, VIs, VSl, VAny] at hV
          obtain ⟨e0, e1, e2, e3, ⟨A4, c4, e4, h4⟩, e5, e6, ⟨A7, c7, e7, h7⟩, ⟨A8, c8, e8, h8⟩⟩ := hV
          obtain ⟨q0, q1⟩ := hS.1.two
          go_simp
          exact hK.out _ _ _ rfl rfl ⟨_, _, rfl, h8⟩ (Below.refl _ _)
        simp only [List.setIfInBounds_toArray, List.set_cons_zero, List.set_cons_succ]
        refine obs_step (Eq.trans (by simp only [List.getElem?_toArray, List.getElem?_cons_succ, List.getElem?_cons_zero]; exact rfl) rfl) rfl (fun w' hS hV K hK => ?_) ?_
        · obtain ⟨q0, q1⟩ := hS.1.two
          go_simp
          exact hK.out _ _ _ rfl rfl rfl (Below.refl _ _)
        simp only [List.setIfInBounds_toArray, List.set_cons_zero, List.set_cons_succ]
        refine fun w' hS hV => ?_
        have hV := fun i hi => hV i (List.mem_range.1 hi)
        simp only [List.range, List.range.loop, List.mem_cons, List.not_mem_nil, or_false, forall_eq_or_imp, forall_eq, List.getD_cons_succ, List.getD_cons_zero, VIs, VSl, VAny] at hV
        obtain ⟨e0, e1, e2, e3, ⟨A4, c4, e4, h4⟩, e5, e6, ⟨A7, c7, e7, h7⟩, ⟨A8, c8, e8, h8⟩, ⟨A9, c9, e9, h9⟩, e10⟩ := hV
        simp only [e0, e1, e2, e3, e4, e5, e6, e7, e8, e9, e10]
        clear e0 e1 e2 e3 e4 e5 e6 e7 e8 e9 e10
        refine wpAny_done (by kernel_rfl) ?_ _
        go_wp2
        go_ret2
        exact a_list (by rw [sandMR_ok HCM.out HR1.out]; unfold sandM; rw [HEV.out, if_pos rfl]) h9
    · have HR1 := Lib.hid hr1
      have b0 : (r != 0) = true := code_ne hr1
      have b0' : (r == 0) = false := by simp [hr1]
      clear hr hr1
      go_enter Tryz.func38, Tryz.ntmps38
      go_wp2_with fail
      refine (hreg).mono ?_
      rintro e w2 ⟨rfl, hb2⟩
      have hB2 := hB1.trans (hb2.mono hB1.size)
      have k2 := k1.below hb2 k1.lt
      obtain ⟨q0, q1⟩ := k2.two
      clear k1 hB1 hb2
      go_wp2_with fail
      refine (hvr _ hB2).mono ?_
      rintro e w3 ⟨rfl, hb3⟩
      rw [← HR.out]
      clear q0 q1
      have hB3 := hB2.trans (hb3.mono hB2.size)
      have k3 := k2.below hb3 k2.lt
      obtain ⟨q0, q1⟩ := k3.two
      go_wp2
      go_ret2
      exact no_list (by rw [sandMR_vr HCM.out (by rw [← HR.out]; exact HR1.out), HR.out]) hB3
  · obtain ⟨r, hr⟩ : ∃ r, r = codeM P sq [xs, ys] := ⟨_, rfl⟩
    have HR := Lib.hid hr
    have HR0 := Lib.hid hr0
    have b0 : (r != 0) = true := code_ne (by rw [hr]; exact hr0)
    have b0' : (r == 0) = false := by rw [hr]; simp [hr0]
    clear hr hr0
    go_enter Tryz.func38, Tryz.ntmps38
    go_wp2_with fail
    refine (hreg).mono ?_
    rintro e w2 ⟨rfl, hb2⟩
    rw [← HR.out]
    have hB2 := hB1.trans (hb2.mono hB1.size)
    have k2 := k1.below hb2 k1.lt
    obtain ⟨q0, q1⟩ := k2.two
    go_wp2
    go_ret2
    exact no_list (by rw [sandMR_m HR0.out, HR.out]) hB2

set_option maxHeartbeats 3200000 in
set_option maxRecDepth 8000 in
theorem UnitVersor_any (P : Int) (A : Option Addr) (n c : Nat) (sq : List Int) (X : Option Addr) (m cx : Nat) (xs : List Int) (w : World) (hn : n ≤ 1048576) (hm : m ≤ 1048576) (ha : Rd w A n (ints sq)) (hx : Rd w X m (ints xs)) (hcx : m ≤ cx) :
    Calls Tryz.prog 41 #[.agg #[.int .i64 P, .slice A n c], .slice X m cx] w fun e w' => ∃ (A' : Option Addr) (k c' : Nat), e = .returned (.tuple #[.slice A' k c', .int .i64 (unitR P sq xs).2]) ∧ MkI w w' A' k c' (unitR P sq xs).1 := by
  have hB0 : Below w.heap.size w (w.alloc (.cells #[.int .i64 P, .slice A n c] 28)) := (Below.refl _ _).alloc (Nat.le_refl _) _
  have k0 : Blk (w.alloc (.cells #[.int .i64 P, .slice A n c] 28)) w.heap.size 28 #[.int .i64 P, .slice A n c] := Blk.new _ _ _
  have hB1 : Below w.heap.size w ((w.alloc (.cells #[.int .i64 P, .slice A n c] 28)).alloc (.cells #[.slice X m cx] 22)) := hB0.alloc (by simp) _
  have k1 : Blk ((w.alloc (.cells #[.int .i64 P, .slice A n c] 28)).alloc (.cells #[.slice X m cx] 22)) w.heap.size 28 #[.int .i64 P, .slice A n c] := k0.alloc _
  have hreg := checkVersors_any P A (some ⟨w.heap.size + 1, 0, none⟩) none n c 1 1 0 0 sq [xs] [] ((w.alloc (.cells #[.int .i64 P, .slice A n c] 28)).alloc (.cells #[.slice X m cx] 22)) hn (by omega) (by omega) (ha.below hB1) (rdII_one' (Blk.new_at (by simp)) (hx.below hB1) hcx) (all_one (by rw [hx.lenI]; exact hm)) (RdII.nil _ _) (by simp)
  rw [codeVs_nil] at hreg
  by_cases hr0 : codeR P sq [xs] = 0
  · skip
    have hcM := (codeR_zero hr0).1
    have HCR := Lib.hid hr0
    rw [hr0] at hreg
    clear hr0
    obtain ⟨HP, hp, hp2, hd1, hd2, hs, hms⟩ := codeM_spec hcM
    have hxl := hx.lenI
    have hsl := ha.lenI
    obtain ⟨hl1, hxs⟩ := hms xs (by simp)
    have hn6 : n ≤ 6 := by omega
    have hmn : m = pw n := by rw [← hxl, hl1, hsl]
    subst hmn
    have HSL := Lib.hid hsl
    have HS := Lib.hid hs
    have HXS := Lib.hid hxs
    clear hxl hsl hms hl1 hd1 hd2 hcM hs hxs
    cases hrt : rootF P (nrmL P sq xs) P.toNat 0 with
    | none =>
      have HRT := Lib.hid hrt
      clear hrt
      go_enter Tryz.func41, Tryz.ntmps41
      go_wp2_with fail
      refine (hreg).mono ?_
      rintro e w2 ⟨rfl, hb2⟩
      have hB2 := hB1.trans (hb2.mono hB1.size)
      have k2 := k1.below hb2 k1.lt
      obtain ⟨q0, q1⟩ := k2.two
      clear k1 hB1 hb2
      clear hn
      have hn := hn6
      have hs := HS.out
      have hxs := HXS.out
      have HPW : pw n ≤ 65536 := Nat.le_trans (pw_le (show n ≤ 10 by omega)) (by decide)
      have HPW64 : pw n ≤ 64 := pw_le hn
      go_wp2
      refine wp_obs 11 [[], [0], [], [], [2, 3], [0, 1, 2, 3, 4], [0, 1, 2, 3, 4, 5], [0, 1, 2, 3, 4, 5, 6], [0, 1, 2, 3, 4, 5, 6], [0, 1, 2, 3, 4, 5, 6, 7], [0, 1, 2, 3, 4, 5, 6, 8]] [VIs (.agg #[.int .i64 P, .slice A n c]), VIs (.int .i64 P), VIs (.agg #[.int .i64 P, .slice A n c]), VIs (.slice X (pw n) cx), VIs (.int .i64 (nrmL P sq xs)), VIs (.tuple #[.int .i64 0, .bool false]), VIs (.tuple #[.int .i64 0, .bool false]), VIs (.int .i64 0), VIs (.bool false), VIs (.int .i64 0), VIs (.bool false)] (fun w' => Blk w' w.heap.size 28 #[.int .i64 P, .slice A n c] ∧ Below w.heap.size w w') (by kernel_rfl) (by kernel_rfl) (fun _ _ h hb => ⟨h.1.below hb h.1.lt, h.2.trans (hb.mono h.2.size)⟩) (⟨k2.drew, hB2.drew⟩) (fun x => ?_)
      refine obs_step (Eq.trans (by simp only [List.getElem?_toArray, List.getElem?_cons_zero]; exact rfl) rfl) rfl (fun w' hS hV K hK => ?_) ?_
      · obtain ⟨q0, q1⟩ := hS.1.two
        go_simp
        exact hK.out _ _ _ rfl rfl rfl (Below.refl _ _)
      simp only [List.setIfInBounds_toArray, List.set_cons_zero, List.set_cons_succ]
      refine obs_step (Eq.trans (by simp only [List.getElem?_toArray, List.getElem?_cons_succ, List.getElem?_cons_zero]; exact rfl) rfl) rfl (fun w' hS hV K hK => ?_) ?_
      · simp only [List.mem_cons, List.not_mem_nil, or_false, forall_eq, List.getD_cons_succ, List.getD_cons_zero, VIs, VAny] at hV
        obtain e0 := hV
        obtain ⟨q0, q1⟩ := hS.1.two
        go_simp
        refine (field_any _ _ _ _ _).mono ?_
        rintro e w1 ⟨rfl, hb⟩
        exact hK.out _ _ _ rfl rfl rfl hb
      simp only [List.setIfInBounds_toArray, List.set_cons_zero, List.set_cons_succ]
      refine obs_step (Eq.trans (by simp only [List.getElem?_toArray, List.getElem?_cons_succ, List.getElem?_cons_zero]; exact rfl) rfl) rfl (fun w' hS hV K hK => ?_) ?_
      · obtain ⟨q0, q1⟩ := hS.1.two
        go_simp
        exact hK.out _ _ _ rfl rfl rfl (Below.refl _ _)
      simp only [List.setIfInBounds_toArray, List.set_cons_zero, List.set_cons_succ]
      refine obs_step (Eq.trans (by simp only [List.getElem?_toArray, List.getElem?_cons_succ, List.getElem?_cons_zero]; exact rfl) rfl) rfl (fun w' hS hV K hK => ?_) ?_
      · obtain ⟨q0, q1⟩ := hS.1.two
        go_simp
        exact hK.out _ _ _ rfl rfl rfl (Below.refl _ _)
      simp only [List.setIfInBounds_toArray, List.set_cons_zero, List.set_cons_succ]
      refine obs_step (Eq.trans (by simp only [List.getElem?_toArray, List.getElem?_cons_succ, List.getElem?_cons_zero]; exact rfl) rfl) rfl (fun w' hS hV K hK => ?_) ?_
      · simp only [List.mem_cons, List.not_mem_nil, or_false, forall_eq_or_imp, forall_eq, List.getD_cons_succ, List.getD_cons_zero, VIs, VAny] at hV
        obtain ⟨e2, e3⟩ := hV
        obtain ⟨q0, q1⟩ := hS.1.two
        go_simp
        refine (spinorNorm_any P A n c sq _ _ xs _ hp hp2 hn (ha.below hS.2) hs (hx.below hS.2) hxs hcx).mono ?_
        rintro e w1 ⟨rfl, hb⟩
        exact hK.out _ _ _ rfl rfl rfl hb
      simp only [List.setIfInBounds_toArray, List.set_cons_zero, List.set_cons_succ]
      refine obs_step (Eq.trans (by simp only [List.getElem?_toArray, List.getElem?_cons_succ, List.getElem?_cons_zero]; exact rfl) rfl) rfl (fun w' hS hV K hK => ?_) ?_
      · simp only [List.mem_cons, List.not_mem_nil, or_false, forall_eq_or_imp, forall_eq, List.getD_cons_succ, List.getD_cons_zero, VIs, VAny] at hV
        obtain ⟨e0, e1, e2, e3, e4⟩ := hV
        obtain ⟨q0, q1⟩ := hS.1.two
        go_simp
        refine (root_none _ hp hp2 HRT.out).mono ?_
        rintro e w1 ⟨rfl, rfl⟩
        exact hK.out _ _ _ rfl rfl rfl (Below.refl _ _)
      simp only [List.setIfInBounds_toArray, List.set_cons_zero, List.set_cons_succ]
      refine obs_step (Eq.trans (by simp only [List.getElem?_toArray, List.getElem?_cons_succ, List.getElem?_cons_zero]; exact rfl) rfl) rfl (fun w' hS hV K hK => ?_) ?_
      · simp only [List.mem_cons, List.not_mem_nil, or_false, forall_eq_or_imp, forall_eq, List.getD_cons_succ, List.getD_cons_zero, VIs, VAny] at hV
        obtain ⟨e0, e1, e2, e3, e4, e5⟩ := hV
        obtain ⟨q0, q1⟩ := hS.1.two
        go_simp
        exact hK.out _ _ _ rfl rfl rfl (Below.refl _ _)
      simp only [List.setIfInBounds_toArray, List.set_cons_zero, List.set_cons_succ]
      refine obs_step (Eq.trans (by simp only [List.getElem?_toArray, List.getElem?_cons_succ, List.getElem?_cons_zero]; exact rfl) rfl) rfl (fun w' hS hV K hK => ?_) ?_
      · simp only [List.mem_cons, List.not_mem_nil, or_false, forall_eq_or_imp, forall_eq, List.getD_cons_succ, List.getD_cons_zero, VIs, VAny] at hV
        obtain ⟨e0, e1, e2, e3, e4, e5, e6⟩ := hV
        obtain ⟨q0, q1⟩ := hS.1.two
        go_simp
        exact hK.out _ _ _ rfl rfl rfl (Below.refl _ _)
      simp only [List.setIfInBounds_toArray, List.set_cons_zero, List.set_cons_succ]
      refine obs_step (Eq.trans (by simp only [List.getElem?_toArray, List.getElem?_cons_succ, List.getElem?_cons_zero]; exact rfl) rfl) rfl (fun w' hS hV K hK => ?_) ?_
      · simp only [List.mem_cons, List.not_mem_nil, or_false, forall_eq_or_imp, forall_eq, List.getD_cons_succ, List.getD_cons_zero, VIs, VAny] at hV
        obtain ⟨e0, e1, e2, e3, e4, e5, e6⟩ := hV
        obtain ⟨q0, q1⟩ := hS.1.two
        go_simp
        exact hK.out _ _ _ rfl rfl rfl (Below.refl _ _)
      simp only [List.setIfInBounds_toArray, List.set_cons_zero, List.set_cons_succ]
      refine obs_step (Eq.trans (by simp only [List.getElem?_toArray, List.getElem?_cons_succ, List.getElem?_cons_zero]; exact rfl) rfl) rfl (fun w' hS hV K hK => ?_) ?_
      · simp only [List.mem_cons, List.not_mem_nil, or_false, forall_eq_or_imp, forall_eq, List.getD_cons_succ, List.getD_cons_zero, VIs, VAny] at hV
        obtain ⟨e0, e1, e2, e3, e4, e5, e6, e7⟩ := hV
        obtain ⟨q0, q1⟩ := hS.1.two
        go_simp
        exact hK.out _ _ _ rfl rfl rfl (Below.refl _ _)
      simp only [List.setIfInBounds_toArray, List.set_cons_zero, List.set_cons_succ]
      refine obs_step (Eq.trans (by simp only [List.getElem?_toArray, List.getElem?_cons_succ, List.getElem?_cons_zero]; exact rfl) rfl) rfl (fun w' hS hV K hK => ?_) ?_
      · simp only [List.mem_cons, List.not_mem_nil, or_false, forall_eq_or_imp, forall_eq, List.getD_cons_succ, List.getD_cons_zero, VIs, VAny] at hV
        obtain ⟨e0, e1, e2, e3, e4, e5, e6, e8⟩ := hV
        obtain ⟨q0, q1⟩ := hS.1.two
        go_simp
        exact hK.out _ _ _ rfl rfl rfl (Below.refl _ _)
      simp only [List.setIfInBounds_toArray, List.set_cons_zero, List.set_cons_succ]
      refine fun w' hS hV => ?_
      have hV := fun i hi => hV i (List.mem_range.1 hi)
      simp only [List.range, List.range.loop, List.mem_cons, List.not_mem_nil, or_false, forall_eq_or_imp, forall_eq, List.getD_cons_succ, List.getD_cons_zero, VIs, VAny] at hV
      obtain ⟨e0, e1, e2, e3, e4, e5, e6, e7, e8, e9, e10⟩ := hV
      simp only [e0, e1, e2, e3, e4, e5, e6, e7, e8, e9, e10]
      clear e0 e1 e2 e3 e4 e5 e6 e7 e8 e9 e10
      refine wpAny_done (by kernel_rfl) ?_ _
      obtain ⟨w3, hw3⟩ : ∃ W, W = w' := ⟨_, rfl⟩
      rw [← hw3] at hS ⊢
      clear hw3
      obtain ⟨k3, hB3⟩ := hS
      clear q0 q1 k2 hB2
      obtain ⟨q0, q1⟩ := k3.two
      go_wp2
      go_ret2
      exact no_list (unitR_5 HCR.out HRT.out) hB3
    | some rt =>
      have HRT := Lib.hid hrt
      clear hrt
      cases hv : versB P sq n xs
      · have HV := Lib.hid hv
        clear hv
        go_enter Tryz.func41, Tryz.ntmps41
        go_wp2_with fail
        refine (hreg).mono ?_
        rintro e w2 ⟨rfl, hb2⟩
        have hB2 := hB1.trans (hb2.mono hB1.size)
        have k2 := k1.below hb2 k1.lt
        obtain ⟨q0, q1⟩ := k2.two
        clear k1 hB1 hb2
        clear hn
        have hn := hn6
        have hs := HS.out
        have hxs := HXS.out
        have HPW : pw n ≤ 65536 := Nat.le_trans (pw_le (show n ≤ 10 by omega)) (by decide)
        have HPW64 : pw n ≤ 64 := pw_le hn
        go_wp2
        refine wp_obs 11 [[], [0], [], [], [2, 3], [0, 1, 2, 3, 4], [0, 1, 2, 3, 4, 5], [0, 1, 2, 3, 4, 5, 6], [0, 1, 2, 3, 4, 5, 6], [0, 1, 2, 3, 4, 5, 6, 7], [0, 1, 2, 3, 4, 5, 6, 8]] [VIs (.agg #[.int .i64 P, .slice A n c]), VIs (.int .i64 P), VIs (.agg #[.int .i64 P, .slice A n c]), VIs (.slice X (pw n) cx), VIs (.int .i64 (nrmL P sq xs)), VIs (.tuple #[.int .i64 rt, .bool true]), VIs (.tuple #[.int .i64 rt, .bool true]), VIs (.int .i64 rt), VIs (.bool true), VIs (.int .i64 rt), VIs (.bool true)] (fun w' => Blk w' w.heap.size 28 #[.int .i64 P, .slice A n c] ∧ Below w.heap.size w w') (by kernel_rfl) (by kernel_rfl) (fun _ _ h hb => ⟨h.1.below hb h.1.lt, h.2.trans (hb.mono h.2.size)⟩) (⟨k2.drew, hB2.drew⟩) (fun x => ?_)
        refine obs_step (Eq.trans (by simp only [List.getElem?_toArray, List.getElem?_cons_zero]; exact rfl) rfl) rfl (fun w' hS hV K hK => ?_) ?_
        · obtain ⟨q0, q1⟩ := hS.1.two
          go_simp
          exact hK.out _ _ _ rfl rfl rfl (Below.refl _ _)
        simp only [List.setIfInBounds_toArray, List.set_cons_zero, List.set_cons_succ]
        refine obs_step (Eq.trans (by simp only [List.getElem?_toArray, List.getElem?_cons_succ, List.getElem?_cons_zero]; exact rfl) rfl) rfl (fun w' hS hV K hK => ?_) ?_
        · simp only [List.mem_cons, List.not_mem_nil, or_false, forall_eq, List.getD_cons_succ, List.getD_cons_zero, VIs, VAny] at hV
          obtain e0 := hV
          obtain ⟨q0, q1⟩ := hS.1.two
          go_simp
          refine (field_any _ _ _ _ _).mono ?_
          rintro e w1 ⟨rfl, hb⟩
          exact hK.out _ _ _ rfl rfl rfl hb
        simp only [List.setIfInBounds_toArray, List.set_cons_zero, List.set_cons_succ]
        refine obs_step (Eq.trans (by simp only [List.getElem?_toArray, List.getElem?_cons_succ, List.getElem?_cons_zero]; exact rfl) rfl) rfl (fun w' hS hV K hK => ?_) ?_
        · obtain ⟨q0, q1⟩ := hS.1.two
          go_simp
          exact hK.out _ _ _ rfl rfl rfl (Below.refl _ _)
        simp only [List.setIfInBounds_toArray, List.set_cons_zero, List.set_cons_succ]
        refine obs_step (Eq.trans (by simp only [List.getElem?_toArray, List.getElem?_cons_succ, List.getElem?_cons_zero]; exact rfl) rfl) rfl (fun w' hS hV K hK => ?_) ?_
        · obtain ⟨q0, q1⟩ := hS.1.two
          go_simp
          exact hK.out _ _ _ rfl rfl rfl (Below.refl _ _)
        simp only [List.setIfInBounds_toArray, List.set_cons_zero, List.set_cons_succ]
        refine obs_step (Eq.trans (by simp only [List.getElem?_toArray, List.getElem?_cons_succ, List.getElem?_cons_zero]; exact rfl) rfl) rfl (fun w' hS hV K hK => ?_) ?_
        · simp only [List.mem_cons, List.not_mem_nil, or_false, forall_eq_or_imp, forall_eq, List.getD_cons_succ, List.getD_cons_zero, VIs, VAny] at hV
          obtain ⟨e2, e3⟩ := hV
          obtain ⟨q0, q1⟩ := hS.1.two
          go_simp
          refine (spinorNorm_any P A n c sq _ _ xs _ hp hp2 hn (ha.below hS.2) hs (hx.below hS.2) hxs hcx).mono ?_
          rintro e w1 ⟨rfl, hb⟩
          exact hK.out _ _ _ rfl rfl rfl hb
        simp only [List.setIfInBounds_toArray, List.set_cons_zero, List.set_cons_succ]
        refine obs_step (Eq.trans (by simp only [List.getElem?_toArray, List.getElem?_cons_succ, List.getElem?_cons_zero]; exact rfl) rfl) rfl (fun w' hS hV K hK => ?_) ?_
        · simp only [List.mem_cons, List.not_mem_nil, or_false, forall_eq_or_imp, forall_eq, List.getD_cons_succ, List.getD_cons_zero, VIs, VAny] at hV
          obtain ⟨e0, e1, e2, e3, e4⟩ := hV
          obtain ⟨q0, q1⟩ := hS.1.two
          go_simp
          refine (root_some _ hp hp2 HRT.out).mono ?_
          rintro e w1 ⟨rfl, rfl⟩
          exact hK.out _ _ _ rfl rfl rfl (Below.refl _ _)
        simp only [List.setIfInBounds_toArray, List.set_cons_zero, List.set_cons_succ]
        refine obs_step (Eq.trans (by simp only [List.getElem?_toArray, List.getElem?_cons_succ, List.getElem?_cons_zero]; exact rfl) rfl) rfl (fun w' hS hV K hK => ?_) ?_
        · simp only [List.mem_cons, List.not_mem_nil, or_false, forall_eq_or_imp, forall_eq, List.getD_cons_succ, List.getD_cons_zero, VIs, VAny] at hV
          obtain ⟨e0, e1, e2, e3, e4, e5⟩ := hV
          obtain ⟨q0, q1⟩ := hS.1.two
          go_simp
          exact hK.out _ _ _ rfl rfl rfl (Below.refl _ _)
        simp only [List.setIfInBounds_toArray, List.set_cons_zero, List.set_cons_succ]
        refine obs_step (Eq.trans (by simp only [List.getElem?_toArray, List.getElem?_cons_succ, List.getElem?_cons_zero]; exact rfl) rfl) rfl (fun w' hS hV K hK => ?_) ?_
        · simp only [List.mem_cons, List.not_mem_nil, or_false, forall_eq_or_imp, forall_eq, List.getD_cons_succ, List.getD_cons_zero, VIs, VAny] at hV
          obtain ⟨e0, e1, e2, e3, e4, e5, e6⟩ := hV
          obtain ⟨q0, q1⟩ := hS.1.two
          go_simp
          exact hK.out _ _ _ rfl rfl rfl (Below.refl _ _)
        simp only [List.setIfInBounds_toArray, List.set_cons_zero, List.set_cons_succ]
        refine obs_step (Eq.trans (by simp only [List.getElem?_toArray, List.getElem?_cons_succ, List.getElem?_cons_zero]; exact rfl) rfl) rfl (fun w' hS hV K hK => ?_) ?_
        · simp only [List.mem_cons, List.not_mem_nil, or_false, forall_eq_or_imp, forall_eq, List.getD_cons_succ, List.getD_cons_zero, VIs, VAny] at hV
          obtain ⟨e0, e1, e2, e3, e4, e5, e6⟩ := hV
          obtain ⟨q0, q1⟩ := hS.1.two
          go_simp
          exact hK.out _ _ _ rfl rfl rfl (Below.refl _ _)
        simp only [List.setIfInBounds_toArray, List.set_cons_zero, List.set_cons_succ]
        refine obs_step (Eq.trans (by simp only [List.getElem?_toArray, List.getElem?_cons_succ, List.getElem?_cons_zero]; exact rfl) rfl) rfl (fun w' hS hV K hK => ?_) ?_
        · simp only [List.mem_cons, List.not_mem_nil, or_false, forall_eq_or_imp, forall_eq, List.getD_cons_succ, List.getD_cons_zero, VIs, VAny] at hV
          obtain ⟨e0, e1, e2, e3, e4, e5, e6, e7⟩ := hV
          obtain ⟨q0, q1⟩ := hS.1.two
          go_simp
          exact hK.out _ _ _ rfl rfl rfl (Below.refl _ _)
        simp only [List.setIfInBounds_toArray, List.set_cons_zero, List.set_cons_succ]
        refine obs_step (Eq.trans (by simp only [List.getElem?_toArray, List.getElem?_cons_succ, List.getElem?_cons_zero]; exact rfl) rfl) rfl (fun w' hS hV K hK => ?_) ?_
        · simp only [List.mem_cons, List.not_mem_nil, or_false, forall_eq_or_imp, forall_eq, List.getD_cons_succ, List.getD_cons_zero, VIs, VAny] at hV
          obtain ⟨e0, e1, e2, e3, e4, e5, e6, e8⟩ := hV
          obtain ⟨q0, q1⟩ := hS.1.two
          go_simp
          exact hK.out _ _ _ rfl rfl rfl (Below.refl _ _)
        simp only [List.setIfInBounds_toArray, List.set_cons_zero, List.set_cons_succ]
        refine fun w' hS hV => ?_
        have hV := fun i hi => hV i (List.mem_range.1 hi)
        simp only [List.range, List.range.loop, List.mem_cons, List.not_mem_nil, or_false, forall_eq_or_imp, forall_eq, List.getD_cons_succ, List.getD_cons_zero, VIs, VAny] at hV
        obtain ⟨e0, e1, e2, e3, e4, e5, e6, e7, e8, e9, e10⟩ := hV
        simp only [e0, e1, e2, e3, e4, e5, e6, e7, e8, e9, e10]
        clear e0 e1 e2 e3 e4 e5 e6 e7 e8 e9 e10
        refine wpAny_done (by kernel_rfl) ?_ _
        obtain ⟨w3, hw3⟩ : ∃ W, W = w' := ⟨_, rfl⟩
        rw [← hw3] at hS ⊢
        clear hw3
        obtain ⟨k3, hB3⟩ := hS
        clear q0 q1 k2 hB2
        obtain ⟨q0, q1⟩ := k3.two
        go_wp2_with fail
        refine (isVersor_any P A n c sq X cx xs _ hp hp2 hn (ha.below hB3) hs (hx.below hB3) hxs hcx).mono ?_
        rintro e w4 ⟨rfl, hb4⟩
        rw [HV.out]
        clear q0 q1
        have hB4 := hB3.trans (hb4.mono hB3.size)
        have k4 := k3.below hb4 k3.lt
        obtain ⟨q0, q1⟩ := k4.two
        go_wp2
        go_ret2
        exact no_list (unitR_v HCR.out (by rw [HSL.out]; exact HV.out)) hB4
      · obtain ⟨hrt1, hrt2⟩ := rootF_small hp HRT.out (versB_norm hp hv)
        have HV := Lib.hid hv
        clear hv
        go_enter Tryz.func41, Tryz.ntmps41
        go_wp2_with fail
        refine (hreg).mono ?_
        rintro e w2 ⟨rfl, hb2⟩
        have hB2 := hB1.trans (hb2.mono hB1.size)
        have k2 := k1.below hb2 k1.lt
        obtain ⟨q0, q1⟩ := k2.two
        clear k1 hB1 hb2
        clear hn
        have hn := hn6
        have hs := HS.out
        have hxs := HXS.out
        have HPW : pw n ≤ 65536 := Nat.le_trans (pw_le (show n ≤ 10 by omega)) (by decide)
        have HPW64 : pw n ≤ 64 := pw_le hn
        go_wp2
        refine wp_obs 11 [[], [0], [], [], [2, 3], [0, 1, 2, 3, 4], [0, 1, 2, 3, 4, 5], [0, 1, 2, 3, 4, 5, 6], [0, 1, 2, 3, 4, 5, 6], [0, 1, 2, 3, 4, 5, 6, 7], [0, 1, 2, 3, 4, 5, 6, 8]] [VIs (.agg #[.int .i64 P, .slice A n c]), VIs (.int .i64 P), VIs (.agg #[.int .i64 P, .slice A n c]), VIs (.slice X (pw n) cx), VIs (.int .i64 (nrmL P sq xs)), VIs (.tuple #[.int .i64 rt, .bool true]), VIs (.tuple #[.int .i64 rt, .bool true]), VIs (.int .i64 rt), VIs (.bool true), VIs (.int .i64 rt), VIs (.bool true)] (fun w' => Blk w' w.heap.size 28 #[.int .i64 P, .slice A n c] ∧ Below w.heap.size w w') (by kernel_rfl) (by kernel_rfl) (fun _ _ h hb => ⟨h.1.below hb h.1.lt, h.2.trans (hb.mono h.2.size)⟩) (⟨k2.drew, hB2.drew⟩) (fun x => ?_)
        refine obs_step (Eq.trans (by simp only [List.getElem?_toArray, List.getElem?_cons_zero]; exact rfl) rfl) rfl (fun w' hS hV K hK => ?_) ?_
        · obtain ⟨q0, q1⟩ := hS.1.two
          go_simp
          exact hK.out _ _ _ rfl rfl rfl (Below.refl _ _)
        simp only [List.setIfInBounds_toArray, List.set_cons_zero, List.set_cons_succ]
        refine obs_step (Eq.trans (by simp only [List.getElem?_toArray, List.getElem?_cons_succ, List.getElem?_cons_zero]; exact rfl) rfl) rfl (fun w' hS hV K hK => ?_) ?_
        · simp only [List.mem_cons, List.not_mem_nil, or_false, forall_eq, List.getD_cons_succ, List.getD_cons_zero, VIs, VAny] at hV
          obtain e0 := hV
          obtain ⟨q0, q1⟩ := hS.1.two
          go_simp
          refine (field_any _ _ _ _ _).mono ?_
          rintro e w1 ⟨rfl, hb⟩
          exact hK.out _ _ _ rfl rfl rfl hb
        simp only [List.setIfInBounds_toArray, List.set_cons_zero, List.set_cons_succ]
        refine obs_step (Eq.trans (by simp only [List.getElem?_toArray, List.getElem?_cons_succ, List.getElem?_cons_zero]; exact rfl) rfl) rfl (fun w' hS hV K hK => ?_) ?_
        · obtain ⟨q0, q1⟩ := hS.1.two
          go_simp
          exact hK.out _ _ _ rfl rfl rfl (Below.refl _ _)
        simp only [List.setIfInBounds_toArray, List.set_cons_zero, List.set_cons_succ]
        refine obs_step (Eq.trans (by simp only [List.getElem?_toArray, List.getElem?_cons_succ, List.getElem?_cons_zero]; exact rfl) rfl) rfl (fun w' hS hV K hK => ?_) ?_
        · obtain ⟨q0, q1⟩ := hS.1.two
          go_simp
          exact hK.out _ _ _ rfl rfl rfl (Below.refl _ _)
        simp only [List.setIfInBounds_toArray, List.set_cons_zero, List.set_cons_succ]
        refine obs_step (Eq.trans (by simp only [List.getElem?_toArray, List.getElem?_cons_succ, List.getElem?_cons_zero]; exact rfl) rfl) rfl (fun w' hS hV K hK => ?_) ?_
        · simp only [List.mem_cons, List.not_mem_nil, or_false, forall_eq_or_imp, forall_eq, List.getD_cons_succ, List.getD_cons_zero, VIs, VAny] at hV
          obtain ⟨e2, e3⟩ := hV
          obtain ⟨q0, q1⟩ := hS.1.two
          go_simp
          refine (spinorNorm_any P A n c sq _ _ xs _ hp hp2 hn (ha.below hS.2) hs (hx.below hS.2) hxs hcx).mono ?_
          rintro e w1 ⟨rfl, hb⟩
          exact hK.out _ _ _ rfl rfl rfl hb
        simp only [List.setIfInBounds_toArray, List.set_cons_zero, List.set_cons_succ]
        refine obs_step (Eq.trans (by simp only [List.getElem?_toArray, List.getElem?_cons_succ, List.getElem?_cons_zero]; exact rfl) rfl) rfl (fun w' hS hV K hK => ?_) ?_
        · simp only [List.mem_cons, List.not_mem_nil, or_false, forall_eq_or_imp, forall_eq, List.getD_cons_succ, List.getD_cons_zero, VIs, VAny] at hV
          obtain ⟨e0, e1, e2, e3, e4⟩ := hV
          obtain ⟨q0, q1⟩ := hS.1.two
          go_simp
          refine (root_some _ hp hp2 HRT.out).mono ?_
          rintro e w1 ⟨rfl, rfl⟩
          exact hK.out _ _ _ rfl rfl rfl (Below.refl _ _)
        simp only [List.setIfInBounds_toArray, List.set_cons_zero, List.set_cons_succ]
        refine obs_step (Eq.trans (by simp only [List.getElem?_toArray, List.getElem?_cons_succ, List.getElem?_cons_zero]; exact rfl) rfl) rfl (fun w' hS hV K hK => ?_) ?_
        · simp only [List.mem_cons, List.not_mem_nil, or_false, forall_eq_or_imp, forall_eq, List.getD_cons_succ, List.getD_cons_zero, VIs, VAny] at hV
          obtain ⟨e0, e1, e2, e3, e4, e5⟩ := hV
          obtain ⟨q0, q1⟩ := hS.1.two
          go_simp
          exact hK.out _ _ _ rfl rfl rfl (Below.refl _ _)
        simp only [List.setIfInBounds_toArray, List.set_cons_zero, List.set_cons_succ]
        refine obs_step (Eq.trans (by simp only [List.getElem?_toArray, List.getElem?_cons_succ, List.getElem?_cons_zero]; exact rfl) rfl) rfl (fun w' hS hV K hK => ?_) ?_
        · simp only [List.mem_cons, List.not_mem_nil, or_false, forall_eq_or_imp, forall_eq, List.getD_cons_succ, List.getD_cons_zero, VIs, VAny] at hV
          obtain ⟨e0, e1, e2, e3, e4, e5, e6⟩ := hV
          obtain ⟨q0, q1⟩ := hS.1.two
          go_simp
          exact hK.out _ _ _ rfl rfl rfl (Below.refl _ _)
        simp only [List.setIfInBounds_toArray, List.set_cons_zero, List.set_cons_succ]
        refine obs_step (Eq.trans (by simp only [List.getElem?_toArray, List.getElem?_cons_succ, List.getElem?_cons_zero]; exact rfl) rfl) rfl (fun w' hS hV K hK => ?_) ?_
        · simp only [List.mem_cons, List.not_mem_nil, or_false, forall_eq_or_imp, forall_eq, List.getD_cons_succ, List.getD_cons_zero, VIs, VAny] at hV
          obtain ⟨e0, e1, e2, e3, e4, e5, e6⟩ := hV
          obtain ⟨q0, q1⟩ := hS.1.two
          go_simp
          exact hK.out _ _ _ rfl rfl rfl (Below.refl _ _)
        simp only [List.setIfInBounds_toArray, List.set_cons_zero, List.set_cons_succ]
        refine obs_step (Eq.trans (by simp only [List.getElem?_toArray, List.getElem?_cons_succ, List.getElem?_cons_zero]; exact rfl) rfl) rfl (fun w' hS hV K hK => ?_) ?_
        · simp only [List.mem_cons, List.not_mem_nil, or_false, forall_eq_or_imp, forall_eq, List.getD_cons_succ, List.getD_cons_zero, VIs, VAny] at hV
          obtain ⟨e0, e1, e2, e3, e4, e5, e6, e7⟩ := hV
          obtain ⟨q0, q1⟩ := hS.1.two
          go_simp
          exact hK.out _ _ _ rfl rfl rfl (Below.refl _ _)
        simp only [List.setIfInBounds_toArray, List.set_cons_zero, List.set_cons_succ]
        refine obs_step (Eq.trans (by simp only [List.getElem?_toArray, List.getElem?_cons_succ, List.getElem?_cons_zero]; exact rfl) rfl) rfl (fun w' hS hV K hK => ?_) ?_
        · simp only [List.mem_cons, List.not_mem_nil, or_false, forall_eq_or_imp, forall_eq, List.getD_cons_succ, List.getD_cons_zero, VIs, VAny] at hV
          obtain ⟨e0, e1, e2, e3, e4, e5, e6, e8⟩ := hV
          obtain ⟨q0, q1⟩ := hS.1.two
          go_simp
          exact hK.out _ _ _ rfl rfl rfl (Below.refl _ _)
        simp only [List.setIfInBounds_toArray, List.set_cons_zero, List.set_cons_succ]
        refine fun w' hS hV => ?_
        have hV := fun i hi => hV i (List.mem_range.1 hi)
        simp only [List.range, List.range.loop, List.mem_cons, List.not_mem_nil, or_false, forall_eq_or_imp, forall_eq, List.getD_cons_succ, List.getD_cons_zero, VIs, VAny] at hV
        obtain ⟨e0, e1, e2, e3, e4, e5, e6, e7, e8, e9, e10⟩ := hV
        simp only [e0, e1, e2, e3, e4, e5, e6, e7, e8, e9, e10]
        clear e0 e1 e2 e3 e4 e5 e6 e7 e8 e9 e10
        refine wpAny_done (by kernel_rfl) ?_ _
        obtain ⟨w3, hw3⟩ : ∃ W, W = w' := ⟨_, rfl⟩
        rw [← hw3] at hS ⊢
        clear hw3
        obtain ⟨k3, hB3⟩ := hS
        clear q0 q1 k2 hB2
        obtain ⟨q0, q1⟩ := k3.two
        go_wp2_with fail
        refine (isVersor_any P A n c sq X cx xs _ hp hp2 hn (ha.below hB3) hs (hx.below hB3) hxs hcx).mono ?_
        rintro e w4 ⟨rfl, hb4⟩
        rw [HV.out]
        clear q0 q1
        have hB4 := hB3.trans (hb4.mono hB3.size)
        have k4 := k3.below hb4 k3.lt
        obtain ⟨q0, q1⟩ := k4.two
        go_wp2
        refine wp_obs 10 [[], [0], [], [], [3], [], [3, 4, 5], [0, 1, 2, 3, 4, 5, 6], [0, 1, 2, 3, 4, 5, 6, 7], []] [VIs (.agg #[.int .i64 P, .slice A n c]), VIs (.int .i64 P), VIs (.slice X (pw n) cx), VIs (.agg #[.int .i64 P, .slice A n c]), VIs (.int .i64 P), VIs (.int .i64 rt), VIs (.int .i64 (invF P rt)), VSl w (pw n) (scaleL P xs (invF P rt)), VSl w (pw n) (scaleL P xs (invF P rt)), VIs (.int .i64 0)] (fun w' => Blk w' w.heap.size 28 #[.int .i64 P, .slice A n c] ∧ Below w.heap.size w w') (by kernel_rfl) (by kernel_rfl) (fun _ _ h hb => ⟨h.1.below hb h.1.lt, h.2.trans (hb.mono h.2.size)⟩) (⟨k4.drew, hB4.drew⟩) (fun x => ?_)
        refine obs_step (Eq.trans (by simp only [List.getElem?_toArray, List.getElem?_cons_zero]; exact rfl) rfl) rfl (fun w' hS hV K hK => ?_) ?_
        · obtain ⟨q0, q1⟩ := hS.1.two
          go_simp
          exact hK.out _ _ _ rfl rfl rfl (Below.refl _ _)
        simp only [List.setIfInBounds_toArray, List.set_cons_zero, List.set_cons_succ]
        refine obs_step (Eq.trans (by simp only [List.getElem?_toArray, List.getElem?_cons_succ, List.getElem?_cons_zero]; exact rfl) rfl) rfl (fun w' hS hV K hK => ?_) ?_
        · simp only [List.mem_cons, List.not_mem_nil, or_false, forall_eq, List.getD_cons_succ, List.getD_cons_zero, VIs, VSl, VAny] at hV
          obtain e0 := hV
          obtain ⟨q0, q1⟩ := hS.1.two
          go_simp
          refine (field_any _ _ _ _ _).mono ?_
          rintro e w1 ⟨rfl, hb⟩
          exact hK.out _ _ _ rfl rfl rfl hb
        simp only [List.setIfInBounds_toArray, List.set_cons_zero, List.set_cons_succ]
        refine obs_step (Eq.trans (by simp only [List.getElem?_toArray, List.getElem?_cons_succ, List.getElem?_cons_zero]; exact rfl) rfl) rfl (fun w' hS hV K hK => ?_) ?_
        · obtain ⟨q0, q1⟩ := hS.1.two
          go_simp
          exact hK.out _ _ _ rfl rfl rfl (Below.refl _ _)
        simp only [List.setIfInBounds_toArray, List.set_cons_zero, List.set_cons_succ]
        refine obs_step (Eq.trans (by simp only [List.getElem?_toArray, List.getElem?_cons_succ, List.getElem?_cons_zero]; exact rfl) rfl) rfl (fun w' hS hV K hK => ?_) ?_
        · obtain ⟨q0, q1⟩ := hS.1.two
          go_simp
          exact hK.out _ _ _ rfl rfl rfl (Below.refl _ _)
        simp only [List.setIfInBounds_toArray, List.set_cons_zero, List.set_cons_succ]
        refine obs_step (Eq.trans (by simp only [List.getElem?_toArray, List.getElem?_cons_succ, List.getElem?_cons_zero]; exact rfl) rfl) rfl (fun w' hS hV K hK => ?_) ?_
        · simp only [List.mem_cons, List.not_mem_nil, or_false, forall_eq, List.getD_cons_succ, List.getD_cons_zero, VIs, VSl, VAny] at hV
          obtain e3 := hV
          obtain ⟨q0, q1⟩ := hS.1.two
          go_simp
          refine (field_any _ _ _ _ _).mono ?_
          rintro e w1 ⟨rfl, hb⟩
          exact hK.out _ _ _ rfl rfl rfl hb
        simp only [List.setIfInBounds_toArray, List.set_cons_zero, List.set_cons_succ]
        refine obs_step (Eq.trans (by simp only [List.getElem?_toArray, List.getElem?_cons_succ, List.getElem?_cons_zero]; exact rfl) rfl) rfl (fun w' hS hV K hK => ?_) ?_
        · obtain ⟨q0, q1⟩ := hS.1.two
          go_simp
          exact hK.out _ _ _ rfl rfl rfl (Below.refl _ _)
        simp only [List.setIfInBounds_toArray, List.set_cons_zero, List.set_cons_succ]
        refine obs_step (Eq.trans (by simp only [List.getElem?_toArray, List.getElem?_cons_succ, List.getElem?_cons_zero]; exact rfl) rfl) rfl (fun w' hS hV K hK => ?_) ?_
        · simp only [List.mem_cons, List.not_mem_nil, or_false, forall_eq_or_imp, forall_eq, List.getD_cons_succ, List.getD_cons_zero, VIs, VSl, VAny] at hV
          obtain ⟨e3, e4, e5⟩ := hV
          obtain ⟨q0, q1⟩ := hS.1.two
          go_simp
          refine (inv_any P rt _ hp hp2 (show 0 ≤ rt ∧ rt < P from ⟨by omega, by omega⟩).1 (show 0 ≤ rt ∧ rt < P from ⟨by omega, by omega⟩).2).mono ?_
          rintro e w1 ⟨rfl, rfl⟩
          exact hK.out _ _ _ rfl rfl rfl (Below.refl _ _)
        simp only [List.setIfInBounds_toArray, List.set_cons_zero, List.set_cons_succ]
        refine obs_step (Eq.trans (by simp only [List.getElem?_toArray, List.getElem?_cons_succ, List.getElem?_cons_zero]; exact rfl) rfl) rfl (fun w' hS hV K hK => ?_) ?_
        · simp only [List.mem_cons, List.not_mem_nil, or_false, forall_eq_or_imp, forall_eq, List.getD_cons_succ, List.getD_cons_zero, VIs, VSl, VAny] at hV
          obtain ⟨e0, e1, e2, e3, e4, e5, e6⟩ := hV
          obtain ⟨q0, q1⟩ := hS.1.two
          go_simp
          refine (scaled_any P _ (pw n) _ (invF P rt) xs _ hp hp2 HPW (hx.below hS.2) hxs (by have := (invF_small hp rt); omega) (by have := (invF_small hp rt); omega)).mono ?_
          rintro e w1 ⟨A2, c2, rfl, hM⟩
          exact hK.out _ _ _ rfl rfl ⟨_, _, rfl, hM.after hS.2⟩ hM.b
        simp only [List.setIfInBounds_toArray, List.set_cons_zero, List.set_cons_succ]
        refine obs_step (Eq.trans (by simp only [List.getElem?_toArray, List.getElem?_cons_succ, List.getElem?_cons_zero]; exact rfl) rfl) rfl (fun w' hS hV K hK => ?_) ?_
        · simp only [List.mem_cons, List.not_mem_nil, or_false, forall_eq_or_imp, forall_eq, List.getD_cons_succ, List.getD_cons_zero, VIs, VSl, VAny] at hV
          obtain ⟨e0, e1, e2, e3, e4, e5, e6, ⟨A7, c7, e7, h7⟩⟩ := hV
          obtain ⟨q0, q1⟩ := hS.1.two
          go_simp
          exact hK.out _ _ _ rfl rfl ⟨_, _, rfl, h7⟩ (Below.refl _ _)
        simp only [List.setIfInBounds_toArray, List.set_cons_zero, List.set_cons_succ]
        refine obs_step (Eq.trans (by simp only [List.getElem?_toArray, List.getElem?_cons_succ, List.getElem?_cons_zero]; exact rfl) rfl) rfl (fun w' hS hV K hK => ?_) ?_
        · obtain ⟨q0, q1⟩ := hS.1.two
          go_simp
          exact hK.out _ _ _ rfl rfl rfl (Below.refl _ _)
        simp only [List.setIfInBounds_toArray, List.set_cons_zero, List.set_cons_succ]
        refine fun w' hS hV => ?_
        have hV := fun i hi => hV i (List.mem_range.1 hi)
        simp only [List.range, List.range.loop, List.mem_cons, List.not_mem_nil, or_false, forall_eq_or_imp, forall_eq, List.getD_cons_succ, List.getD_cons_zero, VIs, VSl, VAny] at hV
        obtain ⟨e0, e1, e2, e3, e4, e5, e6, ⟨A7, c7, e7, h7⟩, ⟨A8, c8, e8, h8⟩, e9⟩ := hV
        simp only [e0, e1, e2, e3, e4, e5, e6, e7, e8, e9]
        clear e0 e1 e2 e3 e4 e5 e6 e7 e8 e9
        refine wpAny_done (by kernel_rfl) ?_ _
        go_wp2
        go_ret2
        exact a_list (unitR_some (codeVr_0 HCR.out (by rw [HSL.out]; exact HV.out)) HRT.out) h8
  · obtain ⟨r, hr⟩ : ∃ r, r = codeR P sq [xs] := ⟨_, rfl⟩
    have HR := Lib.hid hr
    have HR0 := Lib.hid hr0
    have b0 : (r != 0) = true := code_ne (by rw [hr]; exact hr0)
    clear hr hr0
    go_enter Tryz.func41, Tryz.ntmps41
    go_wp2_with fail
    refine (hreg).mono ?_
    rintro e w2 ⟨rfl, hb2⟩
    rw [← HR.out]
    have hB2 := hB1.trans (hb2.mono hB1.size)
    have k2 := k1.below hb2 k1.lt
    obtain ⟨q0, q1⟩ := k2.two
    go_wp2
    go_ret2
    exact no_list (by rw [unitR_ne (by rw [codeVr_ne HR0.out]; exact HR0.out), codeVr_ne HR0.out, HR.out]) hB2

set_option maxHeartbeats 3200000 in
set_option maxRecDepth 8000 in
theorem specUnitVersor_any (P : Int) (A : Option Addr) (n c : Nat) (sq : List Int) (X : Option Addr) (m cx : Nat) (xs : List Int) (w : World) (hn : n ≤ 1048576) (hm : m ≤ 1048576) (ha : Rd w A n (ints sq)) (hx : Rd w X m (ints xs)) (hcx : m ≤ cx) :
    Calls Tryz.prog 40 #[.agg #[.int .i64 P, .slice A n c], .slice X m cx] w fun e w' => ∃ (A' : Option Addr) (k c' : Nat), e = .returned (.tuple #[.slice A' k c', .int .i64 (unitR P sq xs).2]) ∧ MkI w w' A' k c' (unitR P sq xs).1 := by
  have hB0 : Below w.heap.size w (w.alloc (.cells #[.int .i64 P, .slice A n c] 28)) := (Below.refl _ _).alloc (Nat.le_refl _) _
  have k0 : Blk (w.alloc (.cells #[.int .i64 P, .slice A n c] 28)) w.heap.size 28 #[.int .i64 P, .slice A n c] := Blk.new _ _ _
  have hreg := l07Code_any P A n c sq X m cx xs _ hn hm (ha.below hB0) (hx.below hB0) hcx
  by_cases hr0 : codeVr P sq xs = 0
  · skip
    obtain ⟨hcr, hvers⟩ := codeVr_zero hr0
    have hcM := (codeR_zero hcr).1
    rw [hr0] at hreg
    have HR0 := Lib.hid hr0
    clear hr0 hcr
    obtain ⟨HP, hp, hp2, hd1, hd2, hs, hms⟩ := codeM_spec hcM
    have hxl := hx.lenI
    have hsl := ha.lenI
    obtain ⟨hl1, hxs⟩ := hms xs (by simp)
    have hn6 : n ≤ 6 := by omega
    have hmn : m = pw n := by rw [← hxl, hl1, hsl]
    subst hmn
    have HSL := Lib.hid hsl
    have HS := Lib.hid hs
    have HXS := Lib.hid hxs
    clear hxl hsl hms hl1 hd1 hd2 hcM hs hxs
    rw [HSL.out] at hvers
    have hpos := versB_norm hp hvers
    clear hvers
    cases hrt : rootF P (nrmL P sq xs) P.toNat 0 with
    | none =>
      have HRT := Lib.hid hrt
      clear hrt
      go_enter Tryz.func40, Tryz.ntmps40
      go_wp2_with fail
      refine (hreg).mono ?_
      rintro e w2 ⟨rfl, hb2⟩
      have hB2 := hB0.trans (hb2.mono (by simp))
      have k2 := k0.below hb2 k0.lt
      obtain ⟨q0, q1⟩ := k2.two
      clear k0 hB0 hb2
      clear hn
      have hn := hn6
      have hs := HS.out
      have hxs := HXS.out
      have HPW : pw n ≤ 65536 := Nat.le_trans (pw_le (show n ≤ 10 by omega)) (by decide)
      have HPW64 : pw n ≤ 64 := pw_le hn
      go_wp2
      refine wp_obs 11 [[], [0], [0, 1], [0, 1, 2], [0, 1, 2, 3], [0, 1, 2], [0, 1, 2], [0, 1, 2, 5, 6], [0, 1, 2, 3, 4, 5, 6, 7], [0, 1, 2, 3, 4, 5, 6, 7, 8], [0, 1, 2, 3, 4, 5, 6, 7, 8, 9]] [VIs (.int .i64 0), VIs (.bool true), VIs (.bool true), VIs (.pointer (some ⟨w.heap.size, 0, none⟩)), VIs (.int .i64 P), VIs (.agg #[.int .i64 P, .slice A n c]), VIs (.slice X (pw n) cx), VIs (.int .i64 (nrmL P sq xs)), VIs (.int .i64 (-1)), VIs (.bool true), VIs (.bool true)] (fun w' => Blk w' w.heap.size 28 #[.int .i64 P, .slice A n c] ∧ Below w.heap.size w w') (by kernel_rfl) (by kernel_rfl) (fun _ _ h hb => ⟨h.1.below hb h.1.lt, h.2.trans (hb.mono h.2.size)⟩) (⟨k2.drew, hB2.drew⟩) (fun x => ?_)
      refine obs_step (Eq.trans (by simp only [List.getElem?_toArray, List.getElem?_cons_zero]; exact rfl) rfl) rfl (fun w' hS hV K hK => ?_) ?_
      · obtain ⟨q0, q1⟩ := hS.1.two
        go_simp
        exact hK.out _ _ _ rfl rfl rfl (Below.refl _ _)
      simp only [List.setIfInBounds_toArray, List.set_cons_zero, List.set_cons_succ]
      refine obs_step (Eq.trans (by simp only [List.getElem?_toArray, List.getElem?_cons_succ, List.getElem?_cons_zero]; exact rfl) rfl) rfl (fun w' hS hV K hK => ?_) ?_
      · simp only [List.mem_cons, List.not_mem_nil, or_false, forall_eq, List.getD_cons_succ, List.getD_cons_zero, VIs, VAny] at hV
        obtain e0 := hV
        obtain ⟨q0, q1⟩ := hS.1.two
        go_simp
        exact hK.out _ _ _ rfl rfl rfl (Below.refl _ _)
      simp only [List.setIfInBounds_toArray, List.set_cons_zero, List.set_cons_succ]
      refine obs_step (Eq.trans (by simp only [List.getElem?_toArray, List.getElem?_cons_succ, List.getElem?_cons_zero]; exact rfl) rfl) rfl (fun w' hS hV K hK => ?_) ?_
      · simp only [List.mem_cons, List.not_mem_nil, or_false, forall_eq_or_imp, forall_eq, List.getD_cons_succ, List.getD_cons_zero, VIs, VAny] at hV
        obtain ⟨e0, e1⟩ := hV
        obtain ⟨q0, q1⟩ := hS.1.two
        go_simp
        exact hK.out _ _ _ rfl rfl rfl (Below.refl _ _)
      simp only [List.setIfInBounds_toArray, List.set_cons_zero, List.set_cons_succ]
      refine obs_step (Eq.trans (by simp only [List.getElem?_toArray, List.getElem?_cons_succ, List.getElem?_cons_zero]; exact rfl) rfl) rfl (fun w' hS hV K hK => ?_) ?_
      · simp only [List.mem_cons, List.not_mem_nil, or_false, forall_eq_or_imp, forall_eq, List.getD_cons_succ, List.getD_cons_zero, VIs, VAny] at hV
        obtain ⟨e0, e1, e2⟩ := hV
        obtain ⟨q0, q1⟩ := hS.1.two
        go_simp
        exact hK.out _ _ _ rfl rfl rfl (Below.refl _ _)
      simp only [List.setIfInBounds_toArray, List.set_cons_zero, List.set_cons_succ]
      refine obs_step (Eq.trans (by simp only [List.getElem?_toArray, List.getElem?_cons_succ, List.getElem?_cons_zero]; exact rfl) rfl) rfl (fun w' hS hV K hK => ?_) ?_
      · simp only [List.mem_cons, List.not_mem_nil, or_false, forall_eq_or_imp, forall_eq, List.getD_cons_succ, List.getD_cons_zero, VIs, VAny] at hV
        obtain ⟨e0, e1, e2, e3⟩ := hV
        obtain ⟨q0, q1⟩ := hS.1.two
        go_simp
        exact hK.out _ _ _ rfl rfl rfl (Below.refl _ _)
      simp only [List.setIfInBounds_toArray, List.set_cons_zero, List.set_cons_succ]
      refine obs_step (Eq.trans (by simp only [List.getElem?_toArray, List.getElem?_cons_succ, List.getElem?_cons_zero]; exact rfl) rfl) rfl (fun w' hS hV K hK => ?_) ?_
      · simp only [List.mem_cons, List.not_mem_nil, or_false, forall_eq_or_imp, forall_eq, List.getD_cons_succ, List.getD_cons_zero, VIs, VAny] at hV
        obtain ⟨e0, e1, e2⟩ := hV
        obtain ⟨q0, q1⟩ := hS.1.two
        go_simp
        exact hK.out _ _ _ rfl rfl rfl (Below.refl _ _)
      simp only [List.setIfInBounds_toArray, List.set_cons_zero, List.set_cons_succ]
      refine obs_step (Eq.trans (by simp only [List.getElem?_toArray, List.getElem?_cons_succ, List.getElem?_cons_zero]; exact rfl) rfl) rfl (fun w' hS hV K hK => ?_) ?_
      · simp only [List.mem_cons, List.not_mem_nil, or_false, forall_eq_or_imp, forall_eq, List.getD_cons_succ, List.getD_cons_zero, VIs, VAny] at hV
        obtain ⟨e0, e1, e2⟩ := hV
        obtain ⟨q0, q1⟩ := hS.1.two
        go_simp
        exact hK.out _ _ _ rfl rfl rfl (Below.refl _ _)
      simp only [List.setIfInBounds_toArray, List.set_cons_zero, List.set_cons_succ]
      refine obs_step (Eq.trans (by simp only [List.getElem?_toArray, List.getElem?_cons_succ, List.getElem?_cons_zero]; exact rfl) rfl) rfl (fun w' hS hV K hK => ?_) ?_
      · simp only [List.mem_cons, List.not_mem_nil, or_false, forall_eq_or_imp, forall_eq, List.getD_cons_succ, List.getD_cons_zero, VIs, VAny] at hV
        obtain ⟨e0, e1, e2, e5, e6⟩ := hV
        obtain ⟨q0, q1⟩ := hS.1.two
        go_simp
        refine (l07Norm_any P A n c sq _ _ xs _ hp hp2 hn (ha.below hS.2) hs (hx.below hS.2) hxs hcx).mono ?_
        rintro e w1 ⟨rfl, hb⟩
        exact hK.out _ _ _ rfl rfl rfl hb
      simp only [List.setIfInBounds_toArray, List.set_cons_zero, List.set_cons_succ]
      refine obs_step (Eq.trans (by simp only [List.getElem?_toArray, List.getElem?_cons_succ, List.getElem?_cons_zero]; exact rfl) rfl) rfl (fun w' hS hV K hK => ?_) ?_
      · simp only [List.mem_cons, List.not_mem_nil, or_false, forall_eq_or_imp, forall_eq, List.getD_cons_succ, List.getD_cons_zero, VIs, VAny] at hV
        obtain ⟨e0, e1, e2, e3, e4, e5, e6, e7⟩ := hV
        obtain ⟨q0, q1⟩ := hS.1.two
        go_simp
        refine (l01Root_none _ hp hp2 HRT.out).mono ?_
        rintro e w1 ⟨rfl, rfl⟩
        exact hK.out _ _ _ rfl rfl rfl (Below.refl _ _)
      simp only [List.setIfInBounds_toArray, List.set_cons_zero, List.set_cons_succ]
      refine obs_step (Eq.trans (by simp only [List.getElem?_toArray, List.getElem?_cons_succ, List.getElem?_cons_zero]; exact rfl) rfl) rfl (fun w' hS hV K hK => ?_) ?_
      · simp only [List.mem_cons, List.not_mem_nil, or_false, forall_eq_or_imp, forall_eq, List.getD_cons_succ, List.getD_cons_zero, VIs, VAny] at hV
        obtain ⟨e0, e1, e2, e3, e4, e5, e6, e7, e8⟩ := hV
        obtain ⟨q0, q1⟩ := hS.1.two
        go_simp
        exact hK.out _ _ _ rfl rfl rfl (Below.refl _ _)
      simp only [List.setIfInBounds_toArray, List.set_cons_zero, List.set_cons_succ]
      refine obs_step (Eq.trans (by simp only [List.getElem?_toArray, List.getElem?_cons_succ, List.getElem?_cons_zero]; exact rfl) rfl) rfl (fun w' hS hV K hK => ?_) ?_
      · simp only [List.mem_cons, List.not_mem_nil, or_false, forall_eq_or_imp, forall_eq, List.getD_cons_succ, List.getD_cons_zero, VIs, VAny] at hV
        obtain ⟨e0, e1, e2, e3, e4, e5, e6, e7, e8, e9⟩ := hV
        obtain ⟨q0, q1⟩ := hS.1.two
        go_simp
        exact hK.out _ _ _ rfl rfl rfl (Below.refl _ _)
      simp only [List.setIfInBounds_toArray, List.set_cons_zero, List.set_cons_succ]
      refine fun w' hS hV => ?_
      have hV := fun i hi => hV i (List.mem_range.1 hi)
      simp only [List.range, List.range.loop, List.mem_cons, List.not_mem_nil, or_false, forall_eq_or_imp, forall_eq, List.getD_cons_succ, List.getD_cons_zero, VIs, VAny] at hV
      obtain ⟨e0, e1, e2, e3, e4, e5, e6, e7, e8, e9, e10⟩ := hV
      simp only [e0, e1, e2, e3, e4, e5, e6, e7, e8, e9, e10]
      clear e0 e1 e2 e3 e4 e5 e6 e7 e8 e9 e10
      refine wpAny_done (by kernel_rfl) ?_ _
      obtain ⟨w3, hw3⟩ : ∃ W, W = w' := ⟨_, rfl⟩
      rw [← hw3] at hS ⊢
      clear hw3
      obtain ⟨k3, hB3⟩ := hS
      clear q0 q1 k2 hB2
      obtain ⟨q0, q1⟩ := k3.two
      go_wp2
      go_ret2
      exact no_list (unitR_none HR0.out HRT.out) hB3
    | some rt =>
      obtain ⟨hrt1, hrt2⟩ := rootF_small hp hrt hpos
      have HRT := Lib.hid hrt
      have hrt0 : decide (rt < 0) = false := by simp; omega
      clear hrt
      go_enter Tryz.func40, Tryz.ntmps40
      go_wp2_with fail
      refine (hreg).mono ?_
      rintro e w2 ⟨rfl, hb2⟩
      have hB2 := hB0.trans (hb2.mono (by simp))
      have k2 := k0.below hb2 k0.lt
      obtain ⟨q0, q1⟩ := k2.two
      clear k0 hB0 hb2
      clear hn
      have hn := hn6
      have hs := HS.out
      have hxs := HXS.out
      have HPW : pw n ≤ 65536 := Nat.le_trans (pw_le (show n ≤ 10 by omega)) (by decide)
      have HPW64 : pw n ≤ 64 := pw_le hn
      go_wp2
      refine wp_obs 11 [[], [0], [0, 1], [0, 1, 2], [0, 1, 2, 3], [0, 1, 2], [0, 1, 2], [0, 1, 2, 5, 6], [0, 1, 2, 3, 4, 5, 6, 7], [0, 1, 2, 3, 4, 5, 6, 7, 8], [0, 1, 2, 3, 4, 5, 6, 7, 8, 9]] [VIs (.int .i64 0), VIs (.bool true), VIs (.bool true), VIs (.pointer (some ⟨w.heap.size, 0, none⟩)), VIs (.int .i64 P), VIs (.agg #[.int .i64 P, .slice A n c]), VIs (.slice X (pw n) cx), VIs (.int .i64 (nrmL P sq xs)), VIs (.int .i64 rt), VIs (.bool false), VIs (.bool false)] (fun w' => Blk w' w.heap.size 28 #[.int .i64 P, .slice A n c] ∧ Below w.heap.size w w') (by kernel_rfl) (by kernel_rfl) (fun _ _ h hb => ⟨h.1.below hb h.1.lt, h.2.trans (hb.mono h.2.size)⟩) (⟨k2.drew, hB2.drew⟩) (fun x => ?_)
      refine obs_step (Eq.trans (by simp only [List.getElem?_toArray, List.getElem?_cons_zero]; exact rfl) rfl) rfl (fun w' hS hV K hK => ?_) ?_
      · obtain ⟨q0, q1⟩ := hS.1.two
        go_simp
        exact hK.out _ _ _ rfl rfl rfl (Below.refl _ _)
      simp only [List.setIfInBounds_toArray, List.set_cons_zero, List.set_cons_succ]
      refine obs_step (Eq.trans (by simp only [List.getElem?_toArray, List.getElem?_cons_succ, List.getElem?_cons_zero]; exact rfl) rfl) rfl (fun w' hS hV K hK => ?_) ?_
      · simp only [List.mem_cons, List.not_mem_nil, or_false, forall_eq, List.getD_cons_succ, List.getD_cons_zero, VIs, VAny] at hV
        obtain e0 := hV
        obtain ⟨q0, q1⟩ := hS.1.two
        go_simp
        exact hK.out _ _ _ rfl rfl rfl (Below.refl _ _)
      simp only [List.setIfInBounds_toArray, List.set_cons_zero, List.set_cons_succ]
      refine obs_step (Eq.trans (by simp only [List.getElem?_toArray, List.getElem?_cons_succ, List.getElem?_cons_zero]; exact rfl) rfl) rfl (fun w' hS hV K hK => ?_) ?_
      · simp only [List.mem_cons, List.not_mem_nil, or_false, forall_eq_or_imp, forall_eq, List.getD_cons_succ, List.getD_cons_zero, VIs, VAny] at hV
        obtain ⟨e0, e1⟩ := hV
        obtain ⟨q0, q1⟩ := hS.1.two
        go_simp
        exact hK.out _ _ _ rfl rfl rfl (Below.refl _ _)
      simp only [List.setIfInBounds_toArray, List.set_cons_zero, List.set_cons_succ]
      refine obs_step (Eq.trans (by simp only [List.getElem?_toArray, List.getElem?_cons_succ, List.getElem?_cons_zero]; exact rfl) rfl) rfl (fun w' hS hV K hK => ?_) ?_
      · simp only [List.mem_cons, List.not_mem_nil, or_false, forall_eq_or_imp, forall_eq, List.getD_cons_succ, List.getD_cons_zero, VIs, VAny] at hV
        obtain ⟨e0, e1, e2⟩ := hV
        obtain ⟨q0, q1⟩ := hS.1.two
        go_simp
        exact hK.out _ _ _ rfl rfl rfl (Below.refl _ _)
      simp only [List.setIfInBounds_toArray, List.set_cons_zero, List.set_cons_succ]
      refine obs_step (Eq.trans (by simp only [List.getElem?_toArray, List.getElem?_cons_succ, List.getElem?_cons_zero]; exact rfl) rfl) rfl (fun w' hS hV K hK => ?_) ?_
      · simp only [List.mem_cons, List.not_mem_nil, or_false, forall_eq_or_imp, forall_eq, List.getD_cons_succ, List.getD_cons_zero, VIs, VAny] at hV
        obtain ⟨e0, e1, e2, e3⟩ := hV
        obtain ⟨q0, q1⟩ := hS.1.two
        go_simp
        exact hK.out _ _ _ rfl rfl rfl (Below.refl _ _)
      simp only [List.setIfInBounds_toArray, List.set_cons_zero, List.set_cons_succ]
      refine obs_step (Eq.trans (by simp only [List.getElem?_toArray, List.getElem?_cons_succ, List.getElem?_cons_zero]; exact rfl) rfl) rfl (fun w' hS hV K hK => ?_) ?_
      · simp only [List.mem_cons, List.not_mem_nil, or_false, forall_eq_or_imp, forall_eq, List.getD_cons_succ, List.getD_cons_zero, VIs, VAny] at hV
        obtain ⟨e0, e1, e2⟩ := hV
        obtain ⟨q0, q1⟩ := hS.1.two
        go_simp
        exact hK.out _ _ _ rfl rfl rfl (Below.refl _ _)
      simp only [List.setIfInBounds_toArray, List.set_cons_zero, List.set_cons_succ]
      refine obs_step (Eq.trans (by simp only [List.getElem?_toArray, List.getElem?_cons_succ, List.getElem?_cons_zero]; exact rfl) rfl) rfl (fun w' hS hV K hK => ?_) ?_
      · simp only [List.mem_cons, List.not_mem_nil, or_false, forall_eq_or_imp, forall_eq, List.getD_cons_succ, List.getD_cons_zero, VIs, VAny] at hV
        obtain ⟨e0, e1, e2⟩ := hV
        obtain ⟨q0, q1⟩ := hS.1.two
        go_simp
        exact hK.out _ _ _ rfl rfl rfl (Below.refl _ _)
      simp only [List.setIfInBounds_toArray, List.set_cons_zero, List.set_cons_succ]
      refine obs_step (Eq.trans (by simp only [List.getElem?_toArray, List.getElem?_cons_succ, List.getElem?_cons_zero]; exact rfl) rfl) rfl (fun w' hS hV K hK => ?_) ?_
      · simp only [List.mem_cons, List.not_mem_nil, or_false, forall_eq_or_imp, forall_eq, List.getD_cons_succ, List.getD_cons_zero, VIs, VAny] at hV
        obtain ⟨e0, e1, e2, e5, e6⟩ := hV
        obtain ⟨q0, q1⟩ := hS.1.two
        go_simp
        refine (l07Norm_any P A n c sq _ _ xs _ hp hp2 hn (ha.below hS.2) hs (hx.below hS.2) hxs hcx).mono ?_
        rintro e w1 ⟨rfl, hb⟩
        exact hK.out _ _ _ rfl rfl rfl hb
      simp only [List.setIfInBounds_toArray, List.set_cons_zero, List.set_cons_succ]
      refine obs_step (Eq.trans (by simp only [List.getElem?_toArray, List.getElem?_cons_succ, List.getElem?_cons_zero]; exact rfl) rfl) rfl (fun w' hS hV K hK => ?_) ?_
      · simp only [List.mem_cons, List.not_mem_nil, or_false, forall_eq_or_imp, forall_eq, List.getD_cons_succ, List.getD_cons_zero, VIs, VAny] at hV
        obtain ⟨e0, e1, e2, e3, e4, e5, e6, e7⟩ := hV
        obtain ⟨q0, q1⟩ := hS.1.two
        go_simp
        refine (l01Root_some _ hp hp2 HRT.out).mono ?_
        rintro e w1 ⟨rfl, rfl⟩
        exact hK.out _ _ _ rfl rfl rfl (Below.refl _ _)
      simp only [List.setIfInBounds_toArray, List.set_cons_zero, List.set_cons_succ]
      refine obs_step (Eq.trans (by simp only [List.getElem?_toArray, List.getElem?_cons_succ, List.getElem?_cons_zero]; exact rfl) rfl) rfl (fun w' hS hV K hK => ?_) ?_
      · simp only [List.mem_cons, List.not_mem_nil, or_false, forall_eq_or_imp, forall_eq, List.getD_cons_succ, List.getD_cons_zero, VIs, VAny] at hV
        obtain ⟨e0, e1, e2, e3, e4, e5, e6, e7, e8⟩ := hV
        obtain ⟨q0, q1⟩ := hS.1.two
        go_simp
        exact hK.out _ _ _ rfl rfl rfl (Below.refl _ _)
      simp only [List.setIfInBounds_toArray, List.set_cons_zero, List.set_cons_succ]
      refine obs_step (Eq.trans (by simp only [List.getElem?_toArray, List.getElem?_cons_succ, List.getElem?_cons_zero]; exact rfl) rfl) rfl (fun w' hS hV K hK => ?_) ?_
      · simp only [List.mem_cons, List.not_mem_nil, or_false, forall_eq_or_imp, forall_eq, List.getD_cons_succ, List.getD_cons_zero, VIs, VAny] at hV
        obtain ⟨e0, e1, e2, e3, e4, e5, e6, e7, e8, e9⟩ := hV
        obtain ⟨q0, q1⟩ := hS.1.two
        go_simp
        exact hK.out _ _ _ rfl rfl rfl (Below.refl _ _)
      simp only [List.setIfInBounds_toArray, List.set_cons_zero, List.set_cons_succ]
      refine fun w' hS hV => ?_
      have hV := fun i hi => hV i (List.mem_range.1 hi)
      simp only [List.range, List.range.loop, List.mem_cons, List.not_mem_nil, or_false, forall_eq_or_imp, forall_eq, List.getD_cons_succ, List.getD_cons_zero, VIs, VAny] at hV
      obtain ⟨e0, e1, e2, e3, e4, e5, e6, e7, e8, e9, e10⟩ := hV
      simp only [e0, e1, e2, e3, e4, e5, e6, e7, e8, e9, e10]
      clear e0 e1 e2 e3 e4 e5 e6 e7 e8 e9 e10
      refine wpAny_done (by kernel_rfl) ?_ _
      obtain ⟨w3, hw3⟩ : ∃ W, W = w' := ⟨_, rfl⟩
      rw [← hw3] at hS ⊢
      clear hw3
      obtain ⟨k3, hB3⟩ := hS
      clear q0 q1 k2 hB2
      obtain ⟨q0, q1⟩ := k3.two
      go_wp2
      refine wp_obs 15 [[], [0], [], [], [3], [], [5], [], [], [7, 8], [5, 6, 7, 8, 9], [3, 4, 5, 6, 7, 8, 9, 10], [0, 1, 2, 3, 4, 5, 6, 7, 8, 9, 10, 11], [0, 1, 2, 3, 4, 5, 6, 7, 8, 9, 10, 11, 12], []] [VIs (.pointer (some ⟨w.heap.size, 0, none⟩)), VIs (.int .i64 P), VIs (.slice X (pw n) cx), VIs (.pointer (some ⟨w.heap.size, 0, none⟩)), VIs (.int .i64 P), VIs (.pointer (some ⟨w.heap.size, 0, none⟩)), VIs (.int .i64 P), VIs (.agg #[.int .i64 P, .slice A n c]), VIs (.slice X (pw n) cx), VIs (.int .i64 (nrmL P sq xs)), VIs (.int .i64 rt), VIs (.int .i64 (invF P rt)), VSl w (pw n) (scaleL P xs (invF P rt)), VSl w (pw n) (scaleL P xs (invF P rt)), VIs (.int .i64 0)] (fun w' => Blk w' w.heap.size 28 #[.int .i64 P, .slice A n c] ∧ Below w.heap.size w w') (by kernel_rfl) (by kernel_rfl) (fun _ _ h hb => ⟨h.1.below hb h.1.lt, h.2.trans (hb.mono h.2.size)⟩) (⟨k3.drew, hB3.drew⟩) (fun x => ?_)
      refine obs_step (Eq.trans (by simp only [List.getElem?_toArray, List.getElem?_cons_zero]; exact rfl) rfl) rfl (fun w' hS hV K hK => ?_) ?_
      · obtain ⟨q0, q1⟩ := hS.1.two
        go_simp
        exact hK.out _ _ _ rfl rfl rfl (Below.refl _ _)
      simp only [List.setIfInBounds_toArray, List.set_cons_zero, List.set_cons_succ]
      refine obs_step (Eq.trans (by simp only [List.getElem?_toArray, List.getElem?_cons_succ, List.getElem?_cons_zero]; exact rfl) rfl) rfl (fun w' hS hV K hK => ?_) ?_
      · simp only [List.mem_cons, List.not_mem_nil, or_false, forall_eq, List.getD_cons_succ, List.getD_cons_zero, VIs, VSl, VAny] at hV
        obtain e0 := hV
        obtain ⟨q0, q1⟩ := hS.1.two
        go_simp
        exact hK.out _ _ _ rfl rfl rfl (Below.refl _ _)
      simp only [List.setIfInBounds_toArray, List.set_cons_zero, List.set_cons_succ]
      refine obs_step (Eq.trans (by simp only [List.getElem?_toArray, List.getElem?_cons_succ, List.getElem?_cons_zero]; exact rfl) rfl) rfl (fun w' hS hV K hK => ?_) ?_
      · obtain ⟨q0, q1⟩ := hS.1.two
        go_simp
        exact hK.out _ _ _ rfl rfl rfl (Below.refl _ _)
      simp only [List.setIfInBounds_toArray, List.set_cons_zero, List.set_cons_succ]
      refine obs_step (Eq.trans (by simp only [List.getElem?_toArray, List.getElem?_cons_succ, List.getElem?_cons_zero]; exact rfl) rfl) rfl (fun w' hS hV K hK => ?_) ?_
      · obtain ⟨q0, q1⟩ := hS.1.two
        go_simp
        exact hK.out _ _ _ rfl rfl rfl (Below.refl _ _)
      simp only [List.setIfInBounds_toArray, List.set_cons_zero, List.set_cons_succ]
      refine obs_step (Eq.trans (by simp only [List.getElem?_toArray, List.getElem?_cons_succ, List.getElem?_cons_zero]; exact rfl) rfl) rfl (fun w' hS hV K hK => ?_) ?_
      · simp only [List.mem_cons, List.not_mem_nil, or_false, forall_eq, List.getD_cons_succ, List.getD_cons_zero, VIs, VSl, VAny] at hV
        obtain e3 := hV
        obtain ⟨q0, q1⟩ := hS.1.two
        go_simp
        exact hK.out _ _ _ rfl rfl rfl (Below.refl _ _)
      simp only [List.setIfInBounds_toArray, List.set_cons_zero, List.set_cons_succ]
      refine obs_step (Eq.trans (by simp only [List.getElem?_toArray, List.getElem?_cons_succ, List.getElem?_cons_zero]; exact rfl) rfl) rfl (fun w' hS hV K hK => ?_) ?_
      · obtain ⟨q0, q1⟩ := hS.1.two
        go_simp
        exact hK.out _ _ _ rfl rfl rfl (Below.refl _ _)
      simp only [List.setIfInBounds_toArray, List.set_cons_zero, List.set_cons_succ]
      refine obs_step (Eq.trans (by simp only [List.getElem?_toArray, List.getElem?_cons_succ, List.getElem?_cons_zero]; exact rfl) rfl) rfl (fun w' hS hV K hK => ?_) ?_
      · simp only [List.mem_cons, List.not_mem_nil, or_false, forall_eq, List.getD_cons_succ, List.getD_cons_zero, VIs, VSl, VAny] at hV
        obtain e5 := hV
        obtain ⟨q0, q1⟩ := hS.1.two
        go_simp
        exact hK.out _ _ _ rfl rfl rfl (Below.refl _ _)
      simp only [List.setIfInBounds_toArray, List.set_cons_zero, List.set_cons_succ]
      refine obs_step (Eq.trans (by simp only [List.getElem?_toArray, List.getElem?_cons_succ, List.getElem?_cons_zero]; exact rfl) rfl) rfl (fun w' hS hV K hK => ?_) ?_
      · obtain ⟨q0, q1⟩ := hS.1.two
        go_simp
        exact hK.out _ _ _ rfl rfl rfl (Below.refl _ _)
      simp only [List.setIfInBounds_toArray, List.set_cons_zero, List.set_cons_succ]
      refine obs_step (Eq.trans (by simp only [List.getElem?_toArray, List.getElem?_cons_succ, List.getElem?_cons_zero]; exact rfl) rfl) rfl (fun w' hS hV K hK => ?_) ?_
      · obtain ⟨q0, q1⟩ := hS.1.two
        go_simp
        exact hK.out _ _ _ rfl rfl rfl (Below.refl _ _)
      simp only [List.setIfInBounds_toArray, List.set_cons_zero, List.set_cons_succ]
      refine obs_step (Eq.trans (by simp only [List.getElem?_toArray, List.getElem?_cons_succ, List.getElem?_cons_zero]; exact rfl) rfl) rfl (fun w' hS hV K hK => ?_) ?_
      · simp only [List.mem_cons, List.not_mem_nil, or_false, forall_eq_or_imp, forall_eq, List.getD_cons_succ, List.getD_cons_zero, VIs, VSl, VAny] at hV
        obtain ⟨e7, e8⟩ := hV
        obtain ⟨q0, q1⟩ := hS.1.two
        go_simp
        refine (l07Norm_any P A n c sq _ _ xs _ hp hp2 hn (ha.below hS.2) hs (hx.below hS.2) hxs hcx).mono ?_
        rintro e w1 ⟨rfl, hb⟩
        exact hK.out _ _ _ rfl rfl rfl hb
      simp only [List.setIfInBounds_toArray, List.set_cons_zero, List.set_cons_succ]
      refine obs_step (Eq.trans (by simp only [List.getElem?_toArray, List.getElem?_cons_succ, List.getElem?_cons_zero]; exact rfl) rfl) rfl (fun w' hS hV K hK => ?_) ?_
      · simp only [List.mem_cons, List.not_mem_nil, or_false, forall_eq_or_imp, forall_eq, List.getD_cons_succ, List.getD_cons_zero, VIs, VSl, VAny] at hV
        obtain ⟨e5, e6, e7, e8, e9⟩ := hV
        obtain ⟨q0, q1⟩ := hS.1.two
        go_simp
        refine (l01Root_some _ hp hp2 HRT.out).mono ?_
        rintro e w1 ⟨rfl, rfl⟩
        exact hK.out _ _ _ rfl rfl rfl (Below.refl _ _)
      simp only [List.setIfInBounds_toArray, List.set_cons_zero, List.set_cons_succ]
      refine obs_step (Eq.trans (by simp only [List.getElem?_toArray, List.getElem?_cons_succ, List.getElem?_cons_zero]; exact rfl) rfl) rfl (fun w' hS hV K hK => ?_) ?_
      · simp only [List.mem_cons, List.not_mem_nil, or_false, forall_eq_or_imp, forall_eq, List.getD_cons_succ, List.getD_cons_zero, VIs, VSl, VAny] at hV
        obtain ⟨e3, e4, e5, e6, e7, e8, e9, e10⟩ := hV
        obtain ⟨q0, q1⟩ := hS.1.two
        go_simp
        refine (l01Inv_any P rt _ HP (by omega) (show 0 ≤ rt ∧ rt < P from ⟨by omega, by omega⟩).2).mono ?_
        rintro e w1 ⟨rfl, rfl⟩
        exact hK.out _ _ _ rfl rfl rfl (Below.refl _ _)
      simp only [List.setIfInBounds_toArray, List.set_cons_zero, List.set_cons_succ]
      refine obs_step (Eq.trans (by simp only [List.getElem?_toArray, List.getElem?_cons_succ, List.getElem?_cons_zero]; exact rfl) rfl) rfl (fun w' hS hV K hK => ?_) ?_
      · simp only [List.mem_cons, List.not_mem_nil, or_false, forall_eq_or_imp, forall_eq, List.getD_cons_succ, List.getD_cons_zero, VIs, VSl, VAny] at hV
        obtain ⟨e0, e1, e2, e3, e4, e5, e6, e7, e8, e9, e10, e11⟩ := hV
        obtain ⟨q0, q1⟩ := hS.1.two
        go_simp
        refine (l02Scale_any P _ (pw n) _ (invF P rt) xs _ hp hp2 HPW (hx.below hS.2) hxs (by have := (invF_small hp rt); omega) (by have := (invF_small hp rt); omega)).mono ?_
        rintro e w1 ⟨A2, c2, rfl, hM⟩
        exact hK.out _ _ _ rfl rfl ⟨_, _, rfl, hM.after hS.2⟩ hM.b
      simp only [List.setIfInBounds_toArray, List.set_cons_zero, List.set_cons_succ]
      refine obs_step (Eq.trans (by simp only [List.getElem?_toArray, List.getElem?_cons_succ, List.getElem?_cons_zero]; exact rfl) rfl) rfl (fun w' hS hV K hK => ?_) ?_
      · simp only [List.mem_cons, List.not_mem_nil, or_false, forall_eq_or_imp, forall_eq, List.getD_cons_succ, List.getD_cons_zero, VIs, VSl, VAny] at hV
        obtain ⟨e0, e1, e2, e3, e4, e5, e6, e7, e8, e9, e10, e11, ⟨A12, c12, e12, h12⟩⟩ := hV
        obtain ⟨q0, q1⟩ := hS.1.two
        go_simp
        exact hK.out _ _ _ rfl rfl ⟨_, _, rfl, h12⟩ (Below.refl _ _)
      simp only [List.setIfInBounds_toArray, List.set_cons_zero, List.set_cons_succ]
      refine obs_step (Eq.trans (by simp only [List.getElem?_toArray, List.getElem?_cons_succ, List.getElem?_cons_zero]; exact rfl) rfl) rfl (fun w' hS hV K hK => ?_) ?_
      · obtain ⟨q0, q1⟩ := hS.1.two
        go_simp
        exact hK.out _ _ _ rfl rfl rfl (Below.refl _ _)
      simp only [List.setIfInBounds_toArray, List.set_cons_zero, List.set_cons_succ]
      refine fun w' hS hV => ?_
      have hV := fun i hi => hV i (List.mem_range.1 hi)
      simp only [List.range, List.range.loop, List.mem_cons, List.not_mem_nil, or_false, forall_eq_or_imp, forall_eq, List.getD_cons_succ, List.getD_cons_zero, VIs, VSl, VAny] at hV
      obtain ⟨e0, e1, e2, e3, e4, e5, e6, e7, e8, e9, e10, e11, ⟨A12, c12, e12, h12⟩, ⟨A13, c13, e13, h13⟩, e14⟩ := hV
      simp only [e0, e1, e2, e3, e4, e5, e6, e7, e8, e9, e10, e11, e12, e13, e14]
      clear e0 e1 e2 e3 e4 e5 e6 e7 e8 e9 e10 e11 e12 e13 e14
      refine wpAny_done (by kernel_rfl) ?_ _
      go_wp2
      go_ret2
      exact a_list (unitR_some HR0.out HRT.out) h13
  · obtain ⟨r, hr⟩ : ∃ r, r = codeVr P sq xs := ⟨_, rfl⟩
    have HR := Lib.hid hr
    have HR0 := Lib.hid hr0
    have b0 : (r != 0) = true := code_ne (by rw [hr]; exact hr0)
    have b0' : (r == 0) = false := by rw [hr]; simp [hr0]
    clear hr hr0
    go_enter Tryz.func40, Tryz.ntmps40
    go_wp2_with fail
    refine (hreg).mono ?_
    rw [← HR.out]
    rintro e w2 ⟨rfl, hb2⟩
    have hB2 := hB0.trans (hb2.mono (by simp))
    have k2 := k0.below hb2 k0.lt
    obtain ⟨q0, q1⟩ := k2.two
    clear k0 hB0 hb2
    go_wp2
    refine wp_obs 11 [[], [0], [0, 1], [0, 1, 2], [0, 1, 2, 3], [0, 1, 2], [0, 1, 2], [0, 1, 2, 5, 6], [0, 1, 2, 3, 4, 5, 6, 7], [0, 1, 2, 3, 4, 5, 6, 7, 8], [0, 1, 2, 3, 4, 5, 6, 7, 8, 9]] [VIs (.int .i64 r), VIs (.bool false), VIs (.bool false), VIs undef, VIs undef, VIs undef, VIs undef, VIs undef, VIs undef, VIs undef, VIs (.bool false)] (fun w' => Blk w' w.heap.size 28 #[.int .i64 P, .slice A n c] ∧ Below w.heap.size w w') (by kernel_rfl) (by kernel_rfl) (fun _ _ h hb => ⟨h.1.below hb h.1.lt, h.2.trans (hb.mono h.2.size)⟩) (⟨k2.drew, hB2.drew⟩) (fun x => ?_)
    refine obs_step (Eq.trans (by simp only [List.getElem?_toArray, List.getElem?_cons_zero]; exact rfl) rfl) rfl (fun w' hS hV K hK => ?_) ?_
    · obtain ⟨q0, q1⟩ := hS.1.two
      go_simp
      exact hK.out _ _ _ rfl rfl rfl (Below.refl _ _)
    simp only [List.setIfInBounds_toArray, List.set_cons_zero, List.set_cons_succ]
    refine obs_step (Eq.trans (by simp only [List.getElem?_toArray, List.getElem?_cons_succ, List.getElem?_cons_zero]; exact rfl) rfl) rfl (fun w' hS hV K hK => ?_) ?_
    · simp only [List.mem_cons, List.not_mem_nil, or_false, forall_eq, List.getD_cons_succ, List.getD_cons_zero, VIs, VAny] at hV
      obtain e0 := hV
      obtain ⟨q0, q1⟩ := hS.1.two
      go_simp
      exact hK.out _ _ _ rfl rfl rfl (Below.refl _ _)
    simp only [List.setIfInBounds_toArray, List.set_cons_zero, List.set_cons_succ]
    refine obs_step (Eq.trans (by simp only [List.getElem?_toArray, List.getElem?_cons_succ, List.getElem?_cons_zero]; exact rfl) rfl) rfl (fun w' hS hV K hK => ?_) ?_
    · simp only [List.mem_cons, List.not_mem_nil, or_false, forall_eq_or_imp, forall_eq, List.getD_cons_succ, List.getD_cons_zero, VIs, VAny] at hV
      obtain ⟨e0, e1⟩ := hV
      obtain ⟨q0, q1⟩ := hS.1.two
      go_simp
      exact hK.out _ _ _ rfl rfl rfl (Below.refl _ _)
    simp only [List.setIfInBounds_toArray, List.set_cons_zero, List.set_cons_succ]
    refine obs_step (Eq.trans (by simp only [List.getElem?_toArray, List.getElem?_cons_succ, List.getElem?_cons_zero]; exact rfl) rfl) rfl (fun w' hS hV K hK => ?_) ?_
    · simp only [List.mem_cons, List.not_mem_nil, or_false, forall_eq_or_imp, forall_eq, List.getD_cons_succ, List.getD_cons_zero, VIs, VAny] at hV
      obtain ⟨e0, e1, e2⟩ := hV
      obtain ⟨q0, q1⟩ := hS.1.two
      go_simp
      exact hK.out _ _ _ rfl rfl rfl (Below.refl _ _)
    simp only [List.setIfInBounds_toArray, List.set_cons_zero, List.set_cons_succ]
    refine obs_step (Eq.trans (by simp only [List.getElem?_toArray, List.getElem?_cons_succ, List.getElem?_cons_zero]; exact rfl) rfl) rfl (fun w' hS hV K hK => ?_) ?_
    · simp only [List.mem_cons, List.not_mem_nil, or_false, forall_eq_or_imp, forall_eq, List.getD_cons_succ, List.getD_cons_zero, VIs, VAny] at hV
      obtain ⟨e0, e1, e2, e3⟩ := hV
      obtain ⟨q0, q1⟩ := hS.1.two
      go_simp
      exact hK.out _ _ _ rfl rfl rfl (Below.refl _ _)
    simp only [List.setIfInBounds_toArray, List.set_cons_zero, List.set_cons_succ]
    refine obs_step (Eq.trans (by simp only [List.getElem?_toArray, List.getElem?_cons_succ, List.getElem?_cons_zero]; exact rfl) rfl) rfl (fun w' hS hV K hK => ?_) ?_
    · simp only [List.mem_cons, List.not_mem_nil, or_false, forall_eq_or_imp, forall_eq, List.getD_cons_succ, List.getD_cons_zero, VIs, VAny] at hV
      obtain ⟨e0, e1, e2⟩ := hV
      obtain ⟨q0, q1⟩ := hS.1.two
      go_simp
      exact hK.out _ _ _ rfl rfl rfl (Below.refl _ _)
    simp only [List.setIfInBounds_toArray, List.set_cons_zero, List.set_cons_succ]
    refine obs_step (Eq.trans (by simp only [List.getElem?_toArray, List.getElem?_cons_succ, List.getElem?_cons_zero]; exact rfl) rfl) rfl (fun w' hS hV K hK => ?_) ?_
    · simp only [List.mem_cons, List.not_mem_nil, or_false, forall_eq_or_imp, forall_eq, List.getD_cons_succ, List.getD_cons_zero, VIs, VAny] at hV
      obtain ⟨e0, e1, e2⟩ := hV
      obtain ⟨q0, q1⟩ := hS.1.two
      go_simp
      exact hK.out _ _ _ rfl rfl rfl (Below.refl _ _)
    simp only [List.setIfInBounds_toArray, List.set_cons_zero, List.set_cons_succ]
    refine obs_step (Eq.trans (by simp only [List.getElem?_toArray, List.getElem?_cons_succ, List.getElem?_cons_zero]; exact rfl) rfl) rfl (fun w' hS hV K hK => ?_) ?_
    · simp only [List.mem_cons, List.not_mem_nil, or_false, forall_eq_or_imp, forall_eq, List.getD_cons_succ, List.getD_cons_zero, VIs, VAny] at hV
      obtain ⟨e0, e1, e2, e5, e6⟩ := hV
      obtain ⟨q0, q1⟩ := hS.1.two
      go_simp
      exact hK.out _ _ _ rfl rfl rfl (Below.refl _ _)
    simp only [List.setIfInBounds_toArray, List.set_cons_zero, List.set_cons_succ]
    refine obs_step (Eq.trans (by simp only [List.getElem?_toArray, List.getElem?_cons_succ, List.getElem?_cons_zero]; exact rfl) rfl) rfl (fun w' hS hV K hK => ?_) ?_
    · simp only [List.mem_cons, List.not_mem_nil, or_false, forall_eq_or_imp, forall_eq, List.getD_cons_succ, List.getD_cons_zero, VIs, VAny] at hV
      obtain ⟨e0, e1, e2, e3, e4, e5, e6, e7⟩ := hV
      obtain ⟨q0, q1⟩ := hS.1.two
      go_simp
      exact hK.out _ _ _ rfl rfl rfl (Below.refl _ _)
    simp only [List.setIfInBounds_toArray, List.set_cons_zero, List.set_cons_succ]
    refine obs_step (Eq.trans (by simp only [List.getElem?_toArray, List.getElem?_cons_succ, List.getElem?_cons_zero]; exact rfl) rfl) rfl (fun w' hS hV K hK => ?_) ?_
    · simp only [List.mem_cons, List.not_mem_nil, or_false, forall_eq_or_imp, forall_eq, List.getD_cons_succ, List.getD_cons_zero, VIs, VAny] at hV
      obtain ⟨e0, e1, e2, e3, e4, e5, e6, e7, e8⟩ := hV
      obtain ⟨q0, q1⟩ := hS.1.two
      go_simp
      exact hK.out _ _ _ rfl rfl rfl (Below.refl _ _)
    simp only [List.setIfInBounds_toArray, List.set_cons_zero, List.set_cons_succ]
    refine obs_step (Eq.trans (by simp only [List.getElem?_toArray, List.getElem?_cons_succ, List.getElem?_cons_zero]; exact rfl) rfl) rfl (fun w' hS hV K hK => ?_) ?_
    · simp only [List.mem_cons, List.not_mem_nil, or_false, forall_eq_or_imp, forall_eq, List.getD_cons_succ, List.getD_cons_zero, VIs, VAny] at hV
      obtain ⟨e0, e1, e2, e3, e4, e5, e6, e7, e8, e9⟩ := hV
      obtain ⟨q0, q1⟩ := hS.1.two
      go_simp
      exact hK.out _ _ _ rfl rfl rfl (Below.refl _ _)
    simp only [List.setIfInBounds_toArray, List.set_cons_zero, List.set_cons_succ]
    refine fun w' hS hV => ?_
    have hV := fun i hi => hV i (List.mem_range.1 hi)
    simp only [List.range, List.range.loop, List.mem_cons, List.not_mem_nil, or_false, forall_eq_or_imp, forall_eq, List.getD_cons_succ, List.getD_cons_zero, VIs, VAny] at hV
    obtain ⟨e0, e1, e2, e3, e4, e5, e6, e7, e8, e9, e10⟩ := hV
    simp only [e0, e1, e2, e3, e4, e5, e6, e7, e8, e9, e10]
    clear e0 e1 e2 e3 e4 e5 e6 e7 e8 e9 e10
    refine wpAny_done (by kernel_rfl) ?_ _
    obtain ⟨w3, hw3⟩ : ∃ W, W = w' := ⟨_, rfl⟩
    rw [← hw3] at hS ⊢
    clear hw3
    obtain ⟨k3, hB3⟩ := hS
    clear q0 q1 k2 hB2
    obtain ⟨q0, q1⟩ := k3.two
    go_wp2
    go_ret2
    exact no_list (by rw [unitR_ne HR0.out, HR.out]) hB3

end Go.Proofs.YtgfgnpdnppggeaaGreat
