/-
  LawFnSandwiches: part 8 of the texts that the proof needs. No condition.
-/
import Derived.Test.YtggigolkncckoaaGreatP7
namespace Go.Proofs.YtggigolkncckoaaGreat
open Go.RowKit
theorem sandL_len (P : Int) (sq : List Int) (n : Nat) (xs v : List Int) : (sandL P sq n xs v).length = n := by unfold sandL; rw [partL_len]
theorem codeM_two {P : Int} {sq xs ys : List Int} (h : codeM P sq [xs, ys] = 0) : codeM P sq [xs] = 0 ∧ isMu P sq xs = true ∧ isMu P sq ys = true := by
  obtain ⟨h1, h2⟩ := codeM_sp h
  have hx := h2 xs (by simp)
  have hy := h2 ys (by simp)
  refine ⟨?_, hx, hy⟩
  unfold codeM
  rw [h1, if_pos rfl]
  simp [hx]
theorem codeM_one {P : Int} {sq xs ys : List Int} (h : codeM P sq [xs] = 0) (hy : isVe P sq ys = true) : codeV P sq [ys] = 0 := by
  unfold codeV
  rw [(codeM_sp h).1, if_pos rfl]
  simp [hy]
/-- What the code of the program's check says. -/
theorem codeVs_zero {P : Int} {sq xs v : List Int} (h : codeVs P sq [xs] [v] = 0) : codeM P sq [xs] = 0 ∧ isVe P sq v = true ∧ codeR P sq [xs] = 0 := by
  unfold codeVs at h
  by_cases h1 : codeM P sq [xs] = 0
  · rw [if_pos h1] at h
    by_cases h2 : codeV P sq [v] = 0
    · rw [if_pos h2] at h
      refine ⟨h1, ?_, by unfold codeR; rw [if_pos h1]; exact h⟩
      unfold codeV at h2
      rw [(codeM_sp h1).1, if_pos rfl] at h2
      cases h3 : isVe P sq v
      · simp [h3] at h2
      · rfl
    · rw [if_neg h2] at h; exact absurd h h2
  · rw [if_neg h1] at h; exact absurd h h1
theorem codeVs_bad {P : Int} {sq xs v : List Int} (h : ¬ codeVs P sq [xs] [v] = 0) : sandR P sq xs v = ([], codeVs P sq [xs] [v]) := by
  unfold sandR
  by_cases h1 : codeM P sq [xs] = 0
  · rw [if_pos h1]
    cases h2 : isVe P sq v
    · rw [if_neg (by decide)]
      have h3 : codeV P sq [v] = 2 := by unfold codeV; rw [(codeM_sp h1).1, if_pos rfl]; simp [h2]
      have : codeVs P sq [xs] [v] = 2 := by unfold codeVs; rw [if_pos h1, h3]; rfl
      rw [this]
    · rw [if_pos rfl]
      have h3 := codeM_one h1 h2
      have h4 : codeVs P sq [xs] [v] = codeR P sq [xs] := by unfold codeVs codeR; rw [if_pos h1, if_pos h3, if_pos h1]
      rw [h4] at h ⊢
      rw [codeVr_ne h, if_neg h]
  · rw [if_neg h1]
    have : codeVs P sq [xs] [v] = codeM P sq [xs] := by unfold codeVs; rw [if_neg h1]
    rw [this]
theorem codeR_one {P : Int} {sq xs ys : List Int} (h : codeM P sq [xs, ys] = 0) : codeR P sq [xs, ys] = codeR P sq [xs] := by
  unfold codeR
  rw [if_pos h, if_pos (codeM_two h).1]
theorem rootF_spec (p a : Int) : ∀ (k i : Nat) (r : Int), rootF p a k i = some r → (i : Int) ≤ r ∧ r < (i : Int) + k ∧ (r * r) % p = a := by
  intro k
  induction k with
  | zero => intro i r h; simp [rootF] at h
  | succ k ih =>
    intro i r h
    unfold rootF at h
    split at h
    · rename_i hh
      injection h with h
      subst h
      exact ⟨by omega, by omega, hh⟩
    · obtain ⟨h1, h2, h3⟩ := ih (i + 1) r h
      exact ⟨by omega, by omega, h3⟩
/-- A root of a number that is not 0. -/
theorem rootF_small {p a r : Int} (hp : 2 ≤ p) (h : rootF p a p.toNat 0 = some r) (ha : 0 < a) : 0 < r ∧ r < p := by
  obtain ⟨h1, h2, h3⟩ := rootF_spec p a _ _ _ h
  refine ⟨?_, by omega⟩
  have : r ≠ 0 := by
    rintro rfl
    simp at h3
    omega
  omega
theorem root_some {p a r : Int} (w : World) (hp : 2 ≤ p) (hp2 : p ≤ 13) (h : rootF p a p.toNat 0 = some r) :
    Calls Tryz.prog 188 #[.int .i64 p, .int .i64 a] w fun e w' => e = .returned (.tuple #[.int .i64 r, .bool true]) ∧ w = w' := by
  have := root_any p a w hp hp2
  rw [h] at this
  exact this
theorem root_none {p a : Int} (w : World) (hp : 2 ≤ p) (hp2 : p ≤ 13) (h : rootF p a p.toNat 0 = none) :
    Calls Tryz.prog 188 #[.int .i64 p, .int .i64 a] w fun e w' => e = .returned (.tuple #[.int .i64 0, .bool false]) ∧ w = w' := by
  have := root_any p a w hp hp2
  rw [h] at this
  exact this
/-- UnitVersor. -/
def unitR (P : Int) (sq xs : List Int) : List Int × Int :=
  if codeVr P sq xs = 0 then (match rootF P (nrmL P sq xs) P.toNat 0 with | none => ([], 5) | some r => (scaleL P xs (invF P r), 0)) else ([], codeVr P sq xs)
theorem unitR_ne {P : Int} {sq xs : List Int} (h : ¬ codeVr P sq xs = 0) : unitR P sq xs = ([], codeVr P sq xs) := by unfold unitR; rw [if_neg h]
theorem unitR_none {P : Int} {sq xs : List Int} (h : codeVr P sq xs = 0) (h1 : rootF P (nrmL P sq xs) P.toNat 0 = none) : unitR P sq xs = ([], 5) := by unfold unitR; rw [if_pos h, h1]
theorem unitR_some {P r : Int} {sq xs : List Int} (h : codeVr P sq xs = 0) (h1 : rootF P (nrmL P sq xs) P.toNat 0 = some r) : unitR P sq xs = (scaleL P xs (invF P r), 0) := by unfold unitR; rw [if_pos h, h1]
theorem sandR_ok {P : Int} {sq xs v : List Int} (h : codeM P sq [xs] = 0) (h1 : isVe P sq v = true) (h2 : codeVr P sq xs = 0) : sandR P sq xs v = (sandL P sq sq.length xs v, 0) := by unfold sandR; rw [if_pos h, if_pos h1, if_pos h2]
theorem sandR_vr {P : Int} {sq xs v : List Int} (h : codeM P sq [xs] = 0) (h1 : isVe P sq v = true) (h2 : ¬ codeVr P sq xs = 0) : sandR P sq xs v = ([], codeVr P sq xs) := by unfold sandR; rw [if_pos h, if_pos h1, if_neg h2]
theorem sandMR_ok {P : Int} {sq xs v : List Int} (h : codeM P sq [xs, v] = 0) (h2 : codeVr P sq xs = 0) : sandMR P sq xs v = (sandM P sq xs v, 0) := by unfold sandMR; rw [if_pos h, if_pos h2]
theorem sandMR_vr {P : Int} {sq xs v : List Int} (h : codeM P sq [xs, v] = 0) (h2 : ¬ codeVr P sq xs = 0) : sandMR P sq xs v = ([], codeVr P sq xs) := by unfold sandMR; rw [if_pos h, if_neg h2]
theorem sandMR_m {P : Int} {sq xs v : List Int} (h : ¬ codeM P sq [xs, v] = 0) : sandMR P sq xs v = ([], codeM P sq [xs, v]) := by unfold sandMR; rw [if_neg h]
theorem codeVr_5 {P : Int} {sq xs : List Int} (h : codeR P sq [xs] = 0) (hv : versB P sq sq.length xs = false) : codeVr P sq xs = 5 := by unfold codeVr; rw [if_pos h, hv]; rfl
theorem codeVr_0 {P : Int} {sq xs : List Int} (h : codeR P sq [xs] = 0) (hv : versB P sq sq.length xs = true) : codeVr P sq xs = 0 := by unfold codeVr; rw [if_pos h, hv]; rfl
/-- An ending with no list. -/
theorem no_list {w w' : World} {R : List Int × Int} {x : Int} (hR : R = ([], x)) (hB : Below w.heap.size w w') :
    ∃ (A' : Option Addr) (k c' : Nat), Ending.returned (.tuple #[.slice none 0 0, .int .i64 x]) = .returned (.tuple #[.slice A' k c', .int .i64 R.2]) ∧ MkI w w' A' k c' R.1 := by
  subst hR
  exact ⟨none, 0, 0, rfl, Mk.nil hB⟩
/-- An ending with a list. -/
theorem a_list {w w' : World} {R : List Int × Int} {A : Option Addr} {k c : Nat} {L : List Int} {x : Int} (hR : R = (L, x)) (hM : MkI w w' A k c L) :
    ∃ (A' : Option Addr) (k' c' : Nat), Ending.returned (.tuple #[.slice A k c, .int .i64 x]) = .returned (.tuple #[.slice A' k' c', .int .i64 R.2]) ∧ MkI w w' A' k' c' R.1 := by
  subst hR
  exact ⟨_, _, _, rfl, hM⟩
set_option maxHeartbeats 3200000 in
set_option maxRecDepth 8000 in
theorem SandwichOf_any (P : Int) (A : Option Addr) (n c : Nat) (sq : List Int) (X : Option Addr) (m cx : Nat) (xs : List Int) (Y : Option Addr) (l cy : Nat) (ys : List Int) (w : World) (hn : n ≤ 1048576) (hm : m ≤ 1048576) (hl : l ≤ 1048576) (ha : Rd w A n (ints sq)) (hx : Rd w X m (ints xs)) (hcx : m ≤ cx) (hy : Rd w Y l (ints ys)) (hcy : l ≤ cy) :
    Calls Tryz.prog 37 #[.agg #[.int .i64 P, .slice A n c], .slice X m cx, .slice Y l cy] w fun e w' => ∃ (A' : Option Addr) (k c' : Nat), e = .returned (.tuple #[.slice A' k c', .int .i64 (sandR P sq xs ys).2]) ∧ MkI w w' A' k c' (sandR P sq xs ys).1 := by
  have hB0 : Below w.heap.size w (w.alloc (.cells #[.int .i64 P, .slice A n c] 26)) := (Below.refl _ _).alloc (Nat.le_refl _) _
  have k0 : Blk (w.alloc (.cells #[.int .i64 P, .slice A n c] 26)) w.heap.size 26 #[.int .i64 P, .slice A n c] := Blk.new _ _ _
  have hB1 : Below w.heap.size w (((w.alloc (.cells #[.int .i64 P, .slice A n c] 26)).alloc (.cells #[.slice X m cx] 24)).alloc (.cells #[.slice Y l cy] 24)) := (hB0.alloc (by simp) _).alloc (by simp; omega) _
  have k1 : Blk (((w.alloc (.cells #[.int .i64 P, .slice A n c] 26)).alloc (.cells #[.slice X m cx] 24)).alloc (.cells #[.slice Y l cy] 24)) w.heap.size 26 #[.int .i64 P, .slice A n c] := (k0.alloc _).alloc _
  have hreg := checkVersors_any P A (some ⟨w.heap.size + 1, 0, none⟩) (some ⟨w.heap.size + 2, 0, none⟩) n c 1 1 1 1 sq [xs] [ys] (((w.alloc (.cells #[.int .i64 P, .slice A n c] 26)).alloc (.cells #[.slice X m cx] 24)).alloc (.cells #[.slice Y l cy] 24)) hn (by omega) (by omega) (ha.below hB1) (rdII_one' ((Blk.new_at (by simp)).alloc _) (hx.below hB1) hcx) (all_one (by rw [hx.lenI]; exact hm)) (rdII_one' (Blk.new_at (by simp)) (hy.below hB1) hcy) (all_one (by rw [hy.lenI]; exact hl))
  by_cases hr0 : codeVs P sq [xs] [ys] = 0
  · skip
    obtain ⟨hcM, hve, hcR⟩ := codeVs_zero hr0
    have hcM2 := Lib.hid hcM
    rw [hr0] at hreg
    obtain ⟨HP, hp, hp2, hd1, hd2, hs, hms⟩ := codeM_spec hcM
    have hxl := hx.lenI
    have hsl := ha.lenI
    obtain ⟨hl1, hxs⟩ := hms xs (by simp)
    have hn6 : n ≤ 6 := by omega
    have hmn : m = pw n := by rw [← hxl, hl1, hsl]
    subst hmn
    have HSL := Lib.hid hsl
    have HS := Lib.hid hs
    have HXS := Lib.hid hxs
    clear hxl hsl hms hl1 hd1 hd2 hcM hs hxs
    obtain ⟨hyl, hyn⟩ := isVe_spec hve
    have hyll := hy.lenI
    have hln : n = l := by rw [← hyll, hyl, HSL.out]
    subst hln
    clear hyll hyl
    have HCR := Lib.hid hcR
    have HVE := Lib.hid hve
    clear hcR hve hr0
    cases hv : versB P sq n xs
    all_goals
      have HV := Lib.hid hv
      clear hv
      go_enter Tryz.func37, Tryz.ntmps37
      go_wp2_with fail
      refine (hreg).mono ?_
      rintro e w2 ⟨rfl, hb2⟩
      have hB2 := hB1.trans (hb2.mono hB1.size)
      have k2 := k1.below hb2 k1.lt
      obtain ⟨q0, q1⟩ := k2.two
      clear k1 hB1 hb2
      go_wp2_with fail
      refine (isVersor_any P A n c sq X cx xs _ hp hp2 hn6 (ha.below hB2) HS.out (hx.below hB2) HXS.out hcx).mono ?_
      rintro e w3 ⟨rfl, hb3⟩
      rw [HV.out]
      clear q0 q1
      have hB3 := hB2.trans (hb3.mono hB2.size)
      have k3 := k2.below hb3 k2.lt
      obtain ⟨q0, q1⟩ := k3.two
    · go_wp2
      go_ret2
      exact no_list (by rw [sandR_vr hcM2.out HVE.out (by rw [codeVr_5 HCR.out (by rw [HSL.out]; exact HV.out)]; decide), codeVr_5 HCR.out (by rw [HSL.out]; exact HV.out)]) hB3
    · go_wp2_with fail
      refine (sandwich_any P A n c sq X cx xs Y cy ys _ hp hp2 hn6 (ha.below hB3) HS.out (hx.below hB3) HXS.out hcx (hy.below hB3) hyn hcy).mono ?_
      rintro e w4 ⟨A4, c4, rfl, hM⟩
      go_wp2
      go_ret2
      exact a_list (by rw [sandR_ok hcM2.out HVE.out (codeVr_0 HCR.out (by rw [HSL.out]; exact HV.out)), HSL.out]) (hM.after hB3)
  · obtain ⟨r, hr⟩ : ∃ r, r = codeVs P sq [xs] [ys] := ⟨_, rfl⟩
    have HR := Lib.hid hr
    have HR0 := Lib.hid hr0
    have b0 : (r != 0) = true := code_ne (by rw [hr]; exact hr0)
    clear hr hr0
    go_enter Tryz.func37, Tryz.ntmps37
    go_wp2_with fail
    refine (hreg).mono ?_
    rintro e w2 ⟨rfl, hb2⟩
    rw [← HR.out]
    have hB2 := hB1.trans (hb2.mono hB1.size)
    have k2 := k1.below hb2 k1.lt
    obtain ⟨q0, q1⟩ := k2.two
    go_wp2
    go_ret2
    exact no_list (by rw [codeVs_bad HR0.out, HR.out]) hB2
theorem sandMR_bad {P : Int} {sq xs v : List Int} (h : ¬ codeR P sq [xs, v] = 0) : sandMR P sq xs v = ([], codeR P sq [xs, v]) := by
  by_cases h1 : codeM P sq [xs, v] = 0
  · rw [codeR_one h1] at h ⊢
    rw [sandMR_vr h1 (by rw [codeVr_ne h]; exact h), codeVr_ne h]
  · rw [sandMR_m h1]
    have : codeR P sq [xs, v] = codeM P sq [xs, v] := by unfold codeR; rw [if_neg h1]
    rw [this]
theorem unitR_5 {P : Int} {sq xs : List Int} (h : codeR P sq [xs] = 0) (h1 : rootF P (nrmL P sq xs) P.toNat 0 = none) : unitR P sq xs = ([], 5) := by
  cases hv : versB P sq sq.length xs
  · rw [unitR_ne (by rw [codeVr_5 h hv]; decide), codeVr_5 h hv]
  · exact unitR_none (codeVr_0 h hv) h1
theorem unitR_v {P : Int} {sq xs : List Int} (h : codeR P sq [xs] = 0) (hv : versB P sq sq.length xs = false) : unitR P sq xs = ([], 5) := by rw [unitR_ne (by rw [codeVr_5 h hv]; decide), codeVr_5 h hv]
set_option maxHeartbeats 3200000 in
set_option maxRecDepth 8000 in
theorem SandwichOfMultivector_any (P : Int) (A : Option Addr) (n c : Nat) (sq : List Int) (X : Option Addr) (m cx : Nat) (xs : List Int) (Y : Option Addr) (l cy : Nat) (ys : List Int) (w : World) (hn : n ≤ 1048576) (hm : m ≤ 1048576) (hl : l ≤ 1048576) (ha : Rd w A n (ints sq)) (hx : Rd w X m (ints xs)) (hcx : m ≤ cx) (hy : Rd w Y l (ints ys)) (hcy : l ≤ cy) :
    Calls Tryz.prog 50 #[.agg #[.int .i64 P, .slice A n c], .slice X m cx, .slice Y l cy] w fun e w' => ∃ (A' : Option Addr) (k c' : Nat), e = .returned (.tuple #[.slice A' k c', .int .i64 (sandMR P sq xs ys).2]) ∧ MkI w w' A' k c' (sandMR P sq xs ys).1 := by
  have hB0 : Below w.heap.size w (w.alloc (.cells #[.int .i64 P, .slice A n c] 26)) := (Below.refl _ _).alloc (Nat.le_refl _) _
  have k0 : Blk (w.alloc (.cells #[.int .i64 P, .slice A n c] 26)) w.heap.size 26 #[.int .i64 P, .slice A n c] := Blk.new _ _ _
  have hB1 : Below w.heap.size w ((w.alloc (.cells #[.int .i64 P, .slice A n c] 26)).alloc (.cells #[.slice X m cx, .slice Y l cy] 24)) := hB0.alloc (by simp) _
  have k1 : Blk ((w.alloc (.cells #[.int .i64 P, .slice A n c] 26)).alloc (.cells #[.slice X m cx, .slice Y l cy] 24)) w.heap.size 26 #[.int .i64 P, .slice A n c] := k0.alloc _
  have hreg := checkVersors_any P A (some ⟨w.heap.size + 1, 0, none⟩) none n c 2 2 0 0 sq [xs, ys] [] ((w.alloc (.cells #[.int .i64 P, .slice A n c] 26)).alloc (.cells #[.slice X m cx, .slice Y l cy] 24)) hn (by omega) (by omega) (ha.below hB1) (rdII_two (Blk.new_at (by simp)) (hx.below hB1) (hy.below hB1) hcx hcy) (all_two (by rw [hx.lenI]; exact hm) (by rw [hy.lenI]; exact hl)) (RdII.nil _ _) (by simp)
  rw [codeVs_nil] at hreg
  by_cases hr0 : codeR P sq [xs, ys] = 0
  · skip
    have hcM2 := (codeR_zero hr0).1
    obtain ⟨hcM, _, hMy⟩ := codeM_two hcM2
    have HCM := Lib.hid hcM2
    have HCR := Lib.hid ((codeR_one hcM2).symm.trans hr0)
    rw [hr0] at hreg
    clear hr0 hcM2
    obtain ⟨HP, hp, hp2, hd1, hd2, hs, hms⟩ := codeM_spec hcM
    have hxl := hx.lenI
    have hsl := ha.lenI
    obtain ⟨hl1, hxs⟩ := hms xs (by simp)
    have hn6 : n ≤ 6 := by omega
    have hmn : m = pw n := by rw [← hxl, hl1, hsl]
    subst hmn
    have HSL := Lib.hid hsl
    have HS := Lib.hid hs
    have HXS := Lib.hid hxs
    clear hxl hsl hms hl1 hd1 hd2 hcM hs hxs
    have hyl := (isMu_spec hMy).1
    have hyn := (isMu_spec hMy).2
    have hyll := hy.lenI
    have hln : l = pw n := by rw [← hyll, hyl, HSL.out]
    subst hln
    clear hyl hyll hMy
    cases hv : versB P sq n xs
    · have HV := Lib.hid hv
      clear hv
      go_enter Tryz.func50, Tryz.ntmps50
      go_wp2_with fail
      refine (hreg).mono ?_
      rintro e w2 ⟨rfl, hb2⟩
      have hB2 := hB1.trans (hb2.mono hB1.size)
      have k2 := k1.below hb2 k1.lt
      obtain ⟨q0, q1⟩ := k2.two
      clear k1 hB1 hb2
      go_wp2_with fail
      refine (isVersor_any P A n c sq X cx xs _ hp hp2 hn6 (ha.below hB2) HS.out (hx.below hB2) HXS.out hcx).mono ?_
      rintro e w3 ⟨rfl, hb3⟩
      rw [HV.out]
      clear q0 q1
      have hB3 := hB2.trans (hb3.mono hB2.size)
      have k3 := k2.below hb3 k2.lt
      obtain ⟨q0, q1⟩ := k3.two
      go_wp2
      go_ret2
      exact no_list (by rw [sandMR_vr HCM.out (by rw [codeVr_5 HCR.out (by rw [HSL.out]; exact HV.out)]; decide), codeVr_5 HCR.out (by rw [HSL.out]; exact HV.out)]) hB3
    · have HV := Lib.hid hv
      clear hv
      cases hev : evenL xs
      · have HEV := Lib.hid hev
        clear hev
        go_enter Tryz.func50, Tryz.ntmps50
        go_wp2_with fail
        refine (hreg).mono ?_
        rintro e w2 ⟨rfl, hb2⟩
        have hB2 := hB1.trans (hb2.mono hB1.size)
        have k2 := k1.below hb2 k1.lt
        obtain ⟨q0, q1⟩ := k2.two
        clear k1 hB1 hb2
        go_wp2_with fail
        refine (isVersor_any P A n c sq X cx xs _ hp hp2 hn6 (ha.below hB2) HS.out (hx.below hB2) HXS.out hcx).mono ?_
        rintro e w3 ⟨rfl, hb3⟩
        rw [HV.out]
        clear q0 q1
        have hB3 := hB2.trans (hb3.mono hB2.size)
        have k3 := k2.below hb3 k2.lt
        obtain ⟨q0, q1⟩ := k3.two
        go_wp2_with fail
        refine (isEven_any X (pw n) cx xs _ (pw_le hn6) (hx.below hB3)).mono ?_
        rintro e w4 ⟨rfl, hb4⟩
        rw [HEV.out]
        clear q0 q1
        have hB4 := hB3.trans (hb4.mono hB3.size)
        have k4 := k3.below hb4 k3.lt
        obtain ⟨q0, q1⟩ := k4.two
        clear hn
        have hn := hn6
        have hs := HS.out
        have hxs := HXS.out
        have HPW : pw n ≤ 65536 := Nat.le_trans (pw_le (show n ≤ 10 by omega)) (by decide)
        have HPW64 : pw n ≤ 64 := pw_le hn
        go_wp2_with fail
        refine (involute_any P A n c Y (pw n) cy ys _ hp hp2 HPW64 (hy.below hB4) hyn).mono ?_
        rintro e w5 ⟨Y2, cY2, rfl, hY2⟩
        clear q0 q1
        have hB5 := hB4.trans (hY2.b.mono hB4.size)
        have k5 := k4.below hY2.b k4.lt
        obtain ⟨q0, q1⟩ := k5.two
        go_wp2
        refine wp_obs 10 [[], [], [], [], [], [3, 4], [1, 2, 3, 4, 5], [0, 1, 2, 3, 4, 5, 6], [0, 1, 2, 3, 4, 5, 6, 7], []] [VIs (.agg #[.int .i64 P, .slice A n c]), VIs (.slice X (pw n) cx), VIs (.slice Y2 (pw n) cY2), VIs (.agg #[.int .i64 P, .slice A n c]), VIs (.slice X (pw n) cx), VSl w (pw n) (vinvL P sq xs), VRow 3 [xs, (invoL P ys), (vinvL P sq xs)], VSl w (pw n) (timesL P sq n [xs, (invoL P ys), (vinvL P sq xs)]), VSl w (pw n) (timesL P sq n [xs, (invoL P ys), (vinvL P sq xs)]), VIs (.int .i64 0)] (fun w' => Blk w' w.heap.size 26 #[.int .i64 P, .slice A n c] ∧ Below w.heap.size w w' ∧ Below w5.heap.size w5 w') (by kernel_rfl) (by kernel_rfl) (fun _ _ h hb => ⟨h.1.below hb h.1.lt, h.2.1.trans (hb.mono h.2.1.size), h.2.2.trans (hb.mono h.2.2.size)⟩) (⟨k5.drew, hB5.drew, (Below.refl _ _).drew⟩) (fun x => ?_)
        refine obs_step (Eq.trans (by simp only [List.getElem?_toArray, List.getElem?_cons_zero]; exact rfl) rfl) rfl (fun w' hS hV K hK => ?_) ?_
        · obtain ⟨q0, q1⟩ := hS.1.two
          go_simp
          exact hK.out _ _ _ rfl rfl rfl (Below.refl _ _)
        simp only [List.setIfInBounds_toArray, List.set_cons_zero, List.set_cons_succ]
        refine obs_step (Eq.trans (by simp only [List.getElem?_toArray, List.getElem?_cons_succ, List.getElem?_cons_zero]; exact rfl) rfl) rfl (fun w' hS hV K hK => ?_) ?_
        · obtain ⟨q0, q1⟩ := hS.1.two
          go_simp
          exact hK.out _ _ _ rfl rfl rfl (Below.refl _ _)
        simp only [List.setIfInBounds_toArray, List.set_cons_zero, List.set_cons_succ]
        refine obs_step (Eq.trans (by simp only [List.getElem?_toArray, List.getElem?_cons_succ, List.getElem?_cons_zero]; exact rfl) rfl) rfl (fun w' hS hV K hK => ?_) ?_
        · obtain ⟨q0, q1⟩ := hS.1.two
          go_simp
          exact hK.out _ _ _ rfl rfl rfl (Below.refl _ _)
        simp only [List.setIfInBounds_toArray, List.set_cons_zero, List.set_cons_succ]
        refine obs_step (Eq.trans (by simp only [List.getElem?_toArray, List.getElem?_cons_succ, List.getElem?_cons_zero]; exact rfl) rfl) rfl (fun w' hS hV K hK => ?_) ?_
        · obtain ⟨q0, q1⟩ := hS.1.two
          go_simp
          exact hK.out _ _ _ rfl rfl rfl (Below.refl _ _)
        simp only [List.setIfInBounds_toArray, List.set_cons_zero, List.set_cons_succ]
        refine obs_step (Eq.trans (by simp only [List.getElem?_toArray, List.getElem?_cons_succ, List.getElem?_cons_zero]; exact rfl) rfl) rfl (fun w' hS hV K hK => ?_) ?_
        · obtain ⟨q0, q1⟩ := hS.1.two
          go_simp
          exact hK.out _ _ _ rfl rfl rfl (Below.refl _ _)
        simp only [List.setIfInBounds_toArray, List.set_cons_zero, List.set_cons_succ]
        refine obs_step (Eq.trans (by simp only [List.getElem?_toArray, List.getElem?_cons_succ, List.getElem?_cons_zero]; exact rfl) rfl) rfl (fun w' hS hV K hK => ?_) ?_
        · simp only [List.mem_cons, List.not_mem_nil, or_false, forall_eq_or_imp, forall_eq, List.getD_cons_succ, List.getD_cons_zero, VIs, VSl, VRow, VAny] at hV
          obtain ⟨e3, e4⟩ := hV
          obtain ⟨q0, q1⟩ := hS.1.two
          go_simp
          refine (versorInverse_any P A n c sq _ _ xs _ hp hp2 hn (ha.below hS.2.1) hs (hx.below hS.2.1) hxs hcx).mono ?_
          rintro e w1 ⟨A2, c2, rfl, hM⟩
          exact hK.out _ _ _ rfl rfl ⟨_, _, rfl, hM.after hS.2.1⟩ hM.b
        simp only [List.setIfInBounds_toArray, List.set_cons_zero, List.set_cons_succ]
        refine obs_step (Eq.trans (by simp only [List.getElem?_toArray, List.getElem?_cons_succ, List.getElem?_cons_zero]; exact rfl) rfl) rfl (fun w' hS hV K hK => ?_) ?_
        · simp only [List.mem_cons, List.not_mem_nil, or_false, forall_eq_or_imp, forall_eq, List.getD_cons_succ, List.getD_cons_zero, VIs, VSl, VRow, VAny] at hV
          obtain ⟨e1, e2, e3, e4, ⟨A5, c5, e5, h5⟩⟩ := hV
          obtain ⟨q0, q1⟩ := hS.1.two
          go_simp
          exact hK.out _ _ _ rfl rfl ⟨_, _, rfl, rdII_three (Blk.new _ _ _) (Rd.below ((hx.below hS.2.1)) ((Below.refl _ _).alloc (Nat.le_refl _) _)) (Rd.below ((hY2.rd.below hS.2.2)) ((Below.refl _ _).alloc (Nat.le_refl _) _)) (Rd.below (h5.rd) ((Below.refl _ _).alloc (Nat.le_refl _) _)) (hcx) (hY2.2.cap) (h5.2.cap)⟩ ((Below.refl _ _).alloc (Nat.le_refl _) _)
        simp only [List.setIfInBounds_toArray, List.set_cons_zero, List.set_cons_succ]
        refine obs_step (Eq.trans (by simp only [List.getElem?_toArray, List.getElem?_cons_succ, List.getElem?_cons_zero]; exact rfl) rfl) rfl (fun w' hS hV K hK => ?_) ?_
        · simp only [List.mem_cons, List.not_mem_nil, or_false, forall_eq_or_imp, forall_eq, List.getD_cons_succ, List.getD_cons_zero, VIs, VSl, VRow, VAny] at hV
          obtain ⟨e0, e1, e2, e3, e4, ⟨A5, c5, e5, h5⟩, ⟨A6, c6, e6, h6⟩⟩ := hV
          obtain ⟨q0, q1⟩ := hS.1.two
          go_simp
          refine (times_any P A n c sq _ 3 _ [xs, (invoL P ys), (vinvL P sq xs)] _ hp hp2 hn (by omega) (ha.below hS.2.1) hs h6 (all_three ⟨hxs, Rd.lenI ((hx.below hS.2.1))⟩ ⟨(sgnL_nums (by omega) oddT hyn), Rd.lenI ((hY2.rd.below hS.2.2))⟩ ⟨(vinvL_nums hp sq xs), Rd.lenI (h5.rd)⟩)).mono ?_
          rintro e w1 ⟨A2, c2, rfl, hM⟩
          exact hK.out _ _ _ rfl rfl ⟨_, _, rfl, hM.after hS.2.1⟩ hM.b
        simp only [List.setIfInBounds_toArray, List.set_cons_zero, List.set_cons_succ]
        refine obs_step (Eq.trans (by simp only [List.getElem?_toArray, List.getElem?_cons_succ, List.getElem?_cons_zero]; exact rfl) rfl) rfl (fun w' hS hV K hK => ?_) ?_
        · simp only [List.mem_cons, List.not_mem_nil, or_false, forall_eq_or_imp, forall_eq, List.getD_cons_succ, List.getD_cons_zero, VIs, VSl, VRow, VAny] at hV
          obtain ⟨e0, e1, e2, e3, e4, ⟨A5, c5, e5, h5⟩, ⟨A6, c6, e6, h6⟩, ⟨A7, c7, e7, h7⟩⟩ := hV
          obtain ⟨q0, q1⟩ := hS.1.two
          go_simp
          exact hK.out _ _ _ rfl rfl ⟨_, _, rfl, h7⟩ (Below.refl _ _)
        simp only [List.setIfInBounds_toArray, List.set_cons_zero, List.set_cons_succ]
        refine obs_step (Eq.trans (by simp only [List.getElem?_toArray, List.getElem?_cons_succ, List.getElem?_cons_zero]; exact rfl) rfl) rfl (fun w' hS hV K hK => ?_) ?_
        · obtain ⟨q0, q1⟩ := hS.1.two
          go_simp
          exact hK.out _ _ _ rfl rfl rfl (Below.refl _ _)
        simp only [List.setIfInBounds_toArray, List.set_cons_zero, List.set_cons_succ]
        refine fun w' hS hV => ?_
        have hV := fun i hi => hV i (List.mem_range.1 hi)
        simp only [List.range, List.range.loop, List.mem_cons, List.not_mem_nil, or_false, forall_eq_or_imp, forall_eq, List.getD_cons_succ, List.getD_cons_zero, VIs, VSl, VRow, VAny] at hV
        obtain ⟨e0, e1, e2, e3, e4, ⟨A5, c5, e5, h5⟩, ⟨A6, c6, e6, h6⟩, ⟨A7, c7, e7, h7⟩, ⟨A8, c8, e8, h8⟩, e9⟩ := hV
        simp only [e0, e1, e2, e3, e4, e5, e6, e7, e8, e9]
        clear e0 e1 e2 e3 e4 e5 e6 e7 e8 e9
        refine wpAny_done (by kernel_rfl) ?_ _
        go_wp2
        go_ret2
        exact a_list (by rw [sandMR_ok HCM.out (codeVr_0 HCR.out (by rw [HSL.out]; exact HV.out))]; unfold sandM; rw [HEV.out, if_neg (by decide), timesL_three P sq n xs (invoL P ys) _ hx.lenI hxs]) h8
      · have HEV := Lib.hid hev
        clear hev
        go_enter Tryz.func50, Tryz.ntmps50
        go_wp2_with fail
        refine (hreg).mono ?_
        rintro e w2 ⟨rfl, hb2⟩
        have hB2 := hB1.trans (hb2.mono hB1.size)
        have k2 := k1.below hb2 k1.lt
        obtain ⟨q0, q1⟩ := k2.two
        clear k1 hB1 hb2
        go_wp2_with fail
        refine (isVersor_any P A n c sq X cx xs _ hp hp2 hn6 (ha.below hB2) HS.out (hx.below hB2) HXS.out hcx).mono ?_
        rintro e w3 ⟨rfl, hb3⟩
        rw [HV.out]
        clear q0 q1
        have hB3 := hB2.trans (hb3.mono hB2.size)
        have k3 := k2.below hb3 k2.lt
        obtain ⟨q0, q1⟩ := k3.two
        go_wp2_with fail
        refine (isEven_any X (pw n) cx xs _ (pw_le hn6) (hx.below hB3)).mono ?_
        rintro e w4 ⟨rfl, hb4⟩
        rw [HEV.out]
        clear q0 q1
        have hB4 := hB3.trans (hb4.mono hB3.size)
        have k4 := k3.below hb4 k3.lt
        obtain ⟨q0, q1⟩ := k4.two
        clear hn
        have hn := hn6
        have hs := HS.out
        have hxs := HXS.out
        have HPW : pw n ≤ 65536 := Nat.le_trans (pw_le (show n ≤ 10 by omega)) (by decide)
        have HPW64 : pw n ≤ 64 := pw_le hn
        go_wp2
        refine wp_obs 10 [[], [], [], [], [], [3, 4], [1, 2, 3, 4, 5], [0, 1, 2, 3, 4, 5, 6], [0, 1, 2, 3, 4, 5, 6, 7], []] [VIs (.agg #[.int .i64 P, .slice A n c]), VIs (.slice X (pw n) cx), VIs (.slice Y (pw n) cy), VIs (.agg #[.int .i64 P, .slice A n c]), VIs (.slice X (pw n) cx), VSl w (pw n) (vinvL P sq xs), VRow 3 [xs, ys, (vinvL P sq xs)], VSl w (pw n) (timesL P sq n [xs, ys, (vinvL P sq xs)]), VSl w (pw n) (timesL P sq n [xs, ys, (vinvL P sq xs)]), VIs (.int .i64 0)] (fun w' => Blk w' w.heap.size 26 #[.int .i64 P, .slice A n c] ∧ Below w.heap.size w w' ∧ Below w4.heap.size w4 w') (by kernel_rfl) (by kernel_rfl) (fun _ _ h hb => ⟨h.1.below hb h.1.lt, h.2.1.trans (hb.mono h.2.1.size), h.2.2.trans (hb.mono h.2.2.size)⟩) (⟨k4.drew, hB4.drew, (Below.refl _ _).drew⟩) (fun x => ?_)
        refine obs_step (Eq.trans (by simp only [List.getElem?_toArray, List.getElem?_cons_zero]; exact rfl) rfl) rfl (fun w' hS hV K hK => ?_) ?_
        · obtain ⟨q0, q1⟩ := hS.1.two
          go_simp
          exact hK.out _ _ _ rfl rfl rfl (Below.refl _ _)
        simp only [List.setIfInBounds_toArray, List.set_cons_zero, List.set_cons_succ]
        refine obs_step (Eq.trans (by simp only [List.getElem?_toArray, List.getElem?_cons_succ, List.getElem?_cons_zero]; exact rfl) rfl) rfl (fun w' hS hV K hK => ?_) ?_
        · obtain ⟨q0, q1⟩ := hS.1.two
          go_simp
          exact hK.out _ _ _ rfl rfl rfl (Below.refl _ _)
        simp only [List.setIfInBounds_toArray, List.set_cons_zero, List.set_cons_succ]
        refine obs_step (Eq.trans (by simp only [List.getElem?_toArray, List.getElem?_cons_succ, List.getElem?_cons_zero]; exact rfl) rfl) rfl (fun w' hS hV K hK => ?_) ?_
        · obtain ⟨q0, q1⟩ := hS.1.two
          go_simp
          exact hK.out _ _ _ rfl rfl rfl (Below.refl _ _)
        simp only [List.setIfInBounds_toArray, List.set_cons_zero, List.set_cons_succ]
        refine obs_step (Eq.trans (by simp only [List.getElem?_toArray, List.getElem?_cons_succ, List.getElem?_cons_zero]; exact rfl) rfl) rfl (fun w' hS hV K hK => ?_) ?_
        · obtain ⟨q0, q1⟩ := hS.1.two
          go_simp
          exact hK.out _ _ _ rfl rfl rfl (Below.refl _ _)
        simp only [List.setIfInBounds_toArray, List.set_cons_zero, List.set_cons_succ]
        refine obs_step (Eq.trans (by simp only [List.getElem?_toArray, List.getElem?_cons_succ, List.getElem?_cons_zero]; exact rfl) rfl) rfl (fun w' hS hV K hK => ?_) ?_
        · obtain ⟨q0, q1⟩ := hS.1.two
          go_simp
          exact hK.out _ _ _ rfl rfl rfl (Below.refl _ _)
        simp only [List.setIfInBounds_toArray, List.set_cons_zero, List.set_cons_succ]
        refine obs_step (Eq.trans (by simp only [List.getElem?_toArray, List.getElem?_cons_succ, List.getElem?_cons_zero]; exact rfl) rfl) rfl (fun w' hS hV K hK => ?_) ?_
        · simp only [List.mem_cons, List.not_mem_nil, or_false, forall_eq_or_imp, forall_eq, List.getD_cons_succ, List.getD_cons_zero, VIs, VSl, VRow, VAny] at hV
          obtain ⟨e3, e4⟩ := hV
          obtain ⟨q0, q1⟩ := hS.1.two
          go_simp
          refine (versorInverse_any P A n c sq _ _ xs _ hp hp2 hn (ha.below hS.2.1) hs (hx.below hS.2.1) hxs hcx).mono ?_
          rintro e w1 ⟨A2, c2, rfl, hM⟩
          exact hK.out _ _ _ rfl rfl ⟨_, _, rfl, hM.after hS.2.1⟩ hM.b
        simp only [List.setIfInBounds_toArray, List.set_cons_zero, List.set_cons_succ]
        refine obs_step (Eq.trans (by simp only [List.getElem?_toArray, List.getElem?_cons_succ, List.getElem?_cons_zero]; exact rfl) rfl) rfl (fun w' hS hV K hK => ?_) ?_
        · simp only [List.mem_cons, List.not_mem_nil, or_false, forall_eq_or_imp, forall_eq, List.getD_cons_succ, List.getD_cons_zero, VIs, VSl, VRow, VAny] at hV
          obtain ⟨e1, e2, e3, e4, ⟨A5, c5, e5, h5⟩⟩ := hV
          obtain ⟨q0, q1⟩ := hS.1.two
          go_simp
          exact hK.out _ _ _ rfl rfl ⟨_, _, rfl, rdII_three (Blk.new _ _ _) (Rd.below ((hx.below hS.2.1)) ((Below.refl _ _).alloc (Nat.le_refl _) _)) (Rd.below ((hy.below hS.2.1)) ((Below.refl _ _).alloc (Nat.le_refl _) _)) (Rd.below (h5.rd) ((Below.refl _ _).alloc (Nat.le_refl _) _)) (hcx) (hcy) (h5.2.cap)⟩ ((Below.refl _ _).alloc (Nat.le_refl _) _)
        simp only [List.setIfInBounds_toArray, List.set_cons_zero, List.set_cons_succ]
        refine obs_step (Eq.trans (by simp only [List.getElem?_toArray, List.getElem?_cons_succ, List.getElem?_cons_zero]; exact rfl) rfl) rfl (fun w' hS hV K hK => ?_) ?_
        · simp only [List.mem_cons, List.not_mem_nil, or_false, forall_eq_or_imp, forall_eq, List.getD_cons_succ, List.getD_cons_zero, VIs, VSl, VRow, VAny] at hV
          obtain ⟨e0, e1, e2, e3, e4, ⟨A5, c5, e5, h5⟩, ⟨A6, c6, e6, h6⟩⟩ := hV
          obtain ⟨q0, q1⟩ := hS.1.two
          go_simp
          refine (times_any P A n c sq _ 3 _ [xs, ys, (vinvL P sq xs)] _ hp hp2 hn (by omega) (ha.below hS.2.1) hs h6 (all_three ⟨hxs, Rd.lenI ((hx.below hS.2.1))⟩ ⟨hyn, Rd.lenI ((hy.below hS.2.1))⟩ ⟨(vinvL_nums hp sq xs), Rd.lenI (h5.rd)⟩)).mono ?_
          rintro e w1 ⟨A2, c2, rfl, hM⟩
          exact hK.out _ _ _ rfl rfl ⟨_, _, rfl, hM.after hS.2.1⟩ hM.b
        simp only [List.setIfInBounds_toArray, List.set_cons_zero, List.set_cons_succ]
        refine obs_step (Eq.trans (by simp only [List.getElem?_toArray, List.getElem?_cons_succ, List.getElem?_cons_zero]; exact rfl) rfl) rfl (fun w' hS hV K hK => ?_) ?_
        · simp only [List.mem_cons, List.not_mem_nil, or_false, forall_eq_or_imp, forall_eq, List.getD_cons_succ, List.getD_cons_zero, VIs, VSl, VRow, VAny] at hV
          obtain ⟨e0, e1, e2, e3, e4, ⟨A5, c5, e5, h5⟩, ⟨A6, c6, e6, h6⟩, ⟨A7, c7, e7, h7⟩⟩ := hV
          obtain ⟨q0, q1⟩ := hS.1.two
          go_simp
          exact hK.out _ _ _ rfl rfl ⟨_, _, rfl, h7⟩ (Below.refl _ _)
        simp only [List.setIfInBounds_toArray, List.set_cons_zero, List.set_cons_succ]
        refine obs_step (Eq.trans (by simp only [List.getElem?_toArray, List.getElem?_cons_succ, List.getElem?_cons_zero]; exact rfl) rfl) rfl (fun w' hS hV K hK => ?_) ?_
        · obtain ⟨q0, q1⟩ := hS.1.two
          go_simp
          exact hK.out _ _ _ rfl rfl rfl (Below.refl _ _)
        simp only [List.setIfInBounds_toArray, List.set_cons_zero, List.set_cons_succ]
        refine fun w' hS hV => ?_
        have hV := fun i hi => hV i (List.mem_range.1 hi)
        simp only [List.range, List.range.loop, List.mem_cons, List.not_mem_nil, or_false, forall_eq_or_imp, forall_eq, List.getD_cons_succ, List.getD_cons_zero, VIs, VSl, VRow, VAny] at hV
        obtain ⟨e0, e1, e2, e3, e4, ⟨A5, c5, e5, h5⟩, ⟨A6, c6, e6, h6⟩, ⟨A7, c7, e7, h7⟩, ⟨A8, c8, e8, h8⟩, e9⟩ := hV
        simp only [e0, e1, e2, e3, e4, e5, e6, e7, e8, e9]
        clear e0 e1 e2 e3 e4 e5 e6 e7 e8 e9
        refine wpAny_done (by kernel_rfl) ?_ _
        go_wp2
        go_ret2
        exact a_list (by rw [sandMR_ok HCM.out (codeVr_0 HCR.out (by rw [HSL.out]; exact HV.out))]; unfold sandM; rw [HEV.out, if_pos rfl, timesL_three P sq n xs ys _ hx.lenI hxs]) h8
  · obtain ⟨r, hr⟩ : ∃ r, r = codeR P sq [xs, ys] := ⟨_, rfl⟩
    have HR := Lib.hid hr
    have HR0 := Lib.hid hr0
    have b0 : (r != 0) = true := code_ne (by rw [hr]; exact hr0)
    have b0' : (r == 0) = false := by rw [hr]; simp [hr0]
    clear hr hr0
    go_enter Tryz.func50, Tryz.ntmps50
    go_wp2_with fail
    refine (hreg).mono ?_
    rintro e w2 ⟨rfl, hb2⟩
    rw [← HR.out]
    have hB2 := hB1.trans (hb2.mono hB1.size)
    have k2 := k1.below hb2 k1.lt
    obtain ⟨q0, q1⟩ := k2.two
    go_wp2
    go_ret2
    exact no_list (by rw [sandMR_bad HR0.out, HR.out]) hB2
set_option maxHeartbeats 3200000 in
set_option maxRecDepth 8000 in
theorem specSandwichOfMultivector_any (P : Int) (A : Option Addr) (n c : Nat) (sq : List Int) (X : Option Addr) (m cx : Nat) (xs : List Int) (Y : Option Addr) (l cy : Nat) (ys : List Int) (w : World) (hn : n ≤ 1048576) (hm : m ≤ 1048576) (hl : l ≤ 1048576) (ha : Rd w A n (ints sq)) (hx : Rd w X m (ints xs)) (hcx : m ≤ cx) (hy : Rd w Y l (ints ys)) (hcy : l ≤ cy) :
    Calls Tryz.prog 51 #[.agg #[.int .i64 P, .slice A n c], .slice X m cx, .slice Y l cy] w fun e w' => ∃ (A' : Option Addr) (k c' : Nat), e = .returned (.tuple #[.slice A' k c', .int .i64 (sandMR P sq xs ys).2]) ∧ MkI w w' A' k c' (sandMR P sq xs ys).1 := by
  have hB0 : Below w.heap.size w (w.alloc (.cells #[.int .i64 P, .slice A n c] 26)) := (Below.refl _ _).alloc (Nat.le_refl _) _
  have k0 : Blk (w.alloc (.cells #[.int .i64 P, .slice A n c] 26)) w.heap.size 26 #[.int .i64 P, .slice A n c] := Blk.new _ _ _
  have hB1 : Below w.heap.size w ((w.alloc (.cells #[.int .i64 P, .slice A n c] 26)).alloc (.cells #[.slice X m cx, .slice Y l cy] 24)) := hB0.alloc (by simp) _
  have k1 : Blk ((w.alloc (.cells #[.int .i64 P, .slice A n c] 26)).alloc (.cells #[.slice X m cx, .slice Y l cy] 24)) w.heap.size 26 #[.int .i64 P, .slice A n c] := k0.alloc _
  have hreg := l04Code_any P A (some ⟨w.heap.size + 1, 0, none⟩) n c 2 2 sq [xs, ys] ((w.alloc (.cells #[.int .i64 P, .slice A n c] 26)).alloc (.cells #[.slice X m cx, .slice Y l cy] 24)) hn (by omega) (ha.below hB1) (rdII_two (Blk.new_at (by simp)) (hx.below hB1) (hy.below hB1) hcx hcy) (all_two (by rw [hx.lenI]; exact hm) (by rw [hy.lenI]; exact hl))
  have hvr := fun w' (hb : Below w.heap.size w w') => l07Code_any P A n c sq X m cx xs w' hn hm (ha.below hb) (hx.below hb) hcx
  by_cases hr0 : codeM P sq [xs, ys] = 0
  · skip
    rw [hr0] at hreg
    have HCM := Lib.hid hr0
    clear hr0
    obtain ⟨r, hr⟩ : ∃ r, r = codeVr P sq xs := ⟨_, rfl⟩
    have HR := Lib.hid hr
    by_cases hr1 : r = 0
    · obtain ⟨hcr, hvers⟩ := codeVr_zero (hr.symm.trans hr1)
      obtain ⟨hcM, _, hMy⟩ := codeM_two HCM.out
      obtain ⟨HP, hp, hp2, hd1, hd2, hs, hms⟩ := codeM_spec hcM
      have hxl := hx.lenI
      have hsl := ha.lenI
      obtain ⟨hl1, hxs⟩ := hms xs (by simp)
      have hn6 : n ≤ 6 := by omega
      have hmn : m = pw n := by rw [← hxl, hl1, hsl]
      subst hmn
      have HSL := Lib.hid hsl
      have HS := Lib.hid hs
      have HXS := Lib.hid hxs
      clear hxl hsl hms hl1 hd1 hd2 hcM hs hxs
      have hyl := (isMu_spec hMy).1
      have hyn := (isMu_spec hMy).2
      have hyll := hy.lenI
      have hln : l = pw n := by rw [← hyll, hyl, HSL.out]
      subst hln
      clear hyl hyll hMy
      rw [HSL.out] at hvers
      have hpos := versB_norm hp hvers
      have HR1 := Lib.hid (hr.symm.trans hr1)
      subst hr1
      clear hr hcr hvers
      cases hev : evenL xs
      · have HEV := Lib.hid hev
        clear hev
        go_enter Tryz.func51, Tryz.ntmps51
        go_wp2_with fail
        refine (hreg).mono ?_
        rintro e w2 ⟨rfl, hb2⟩
        have hB2 := hB1.trans (hb2.mono hB1.size)
        have k2 := k1.below hb2 k1.lt
        obtain ⟨q0, q1⟩ := k2.two
        clear k1 hB1 hb2
        go_wp2_with fail
        refine (hvr _ hB2).mono ?_
        rintro e w3 ⟨rfl, hb3⟩
        rw [← HR.out]
        clear q0 q1
        have hB3 := hB2.trans (hb3.mono hB2.size)
        have k3 := k2.below hb3 k2.lt
        obtain ⟨q0, q1⟩ := k3.two
        go_wp2_with fail
        refine (l04Even_any P A n c X cx xs _ HP hn6 (hx.below hB3) HXS.out).mono ?_
        rintro e w4 ⟨rfl, hb4⟩
        rw [HEV.out]
        clear q0 q1
        have hB4 := hB3.trans (hb4.mono hB3.size)
        have k4 := k3.below hb4 k3.lt
        obtain ⟨q0, q1⟩ := k4.two
        clear hn
        have hn := hn6
        have hs := HS.out
        have hxs := HXS.out
        have HPW : pw n ≤ 65536 := Nat.le_trans (pw_le (show n ≤ 10 by omega)) (by decide)
        have HPW64 : pw n ≤ 64 := pw_le hn
        go_wp2_with fail
        refine (l04Involute_any P A n c Y (pw n) cy ys _ hp hp2 HPW64 (hy.below hB4) hyn).mono ?_
        rintro e w5 ⟨Y2, cY2, rfl, hY2⟩
        clear q0 q1
        have hB5 := hB4.trans (hY2.b.mono hB4.size)
        have k5 := k4.below hY2.b k4.lt
        obtain ⟨q0, q1⟩ := k5.two
        go_wp2
        refine wp_obs 11 [[], [], [], [], [1, 2, 3], [], [], [5, 6], [0, 1, 2, 3, 4, 5, 6, 7], [0, 1, 2, 3, 4, 5, 6, 7, 8], []] [VIs (.agg #[.int .i64 P, .slice A n c]), VIs (.agg #[.int .i64 P, .slice A n c]), VIs (.slice X (pw n) cx), VIs (.slice Y2 (pw n) cY2), VSl w (pw n) (mulL P sq xs (invoL P ys)), VIs (.agg #[.int .i64 P, .slice A n c]), VIs (.slice X (pw n) cx), VSl w (pw n) (vinvL P sq xs), VSl w (pw n) (mulL P sq (mulL P sq xs (invoL P ys)) (vinvL P sq xs)), VSl w (pw n) (mulL P sq (mulL P sq xs (invoL P ys)) (vinvL P sq xs)), VIs (.int .i64 0)] (fun w' => Blk w' w.heap.size 26 #[.int .i64 P, .slice A n c] ∧ Below w.heap.size w w' ∧ Below w5.heap.size w5 w') (by kernel_rfl) (by kernel_rfl) (fun _ _ h hb => ⟨h.1.below hb h.1.lt, h.2.1.trans (hb.mono h.2.1.size), h.2.2.trans (hb.mono h.2.2.size)⟩) (⟨k5.drew, hB5.drew, (Below.refl _ _).drew⟩) (fun x => ?_)
        refine obs_step (Eq.trans (by simp only [List.getElem?_toArray, List.getElem?_cons_zero]; exact rfl) rfl) rfl (fun w' hS hV K hK => ?_) ?_
        · obtain ⟨q0, q1⟩ := hS.1.two
          go_simp
          exact hK.out _ _ _ rfl rfl rfl (Below.refl _ _)
        simp only [List.setIfInBounds_toArray, List.set_cons_zero, List.set_cons_succ]
        refine obs_step (Eq.trans (by simp only [List.getElem?_toArray, List.getElem?_cons_succ, List.getElem?_cons_zero]; exact rfl) rfl) rfl (fun w' hS hV K hK => ?_) ?_
        · obtain ⟨q0, q1⟩ := hS.1.two
          go_simp
          exact hK.out _ _ _ rfl rfl rfl (Below.refl _ _)
        simp only [List.setIfInBounds_toArray, List.set_cons_zero, List.set_cons_succ]
        refine obs_step (Eq.trans (by simp only [List.getElem?_toArray, List.getElem?_cons_succ, List.getElem?_cons_zero]; exact rfl) rfl) rfl (fun w' hS hV K hK => ?_) ?_
        · obtain ⟨q0, q1⟩ := hS.1.two
          go_simp
          exact hK.out _ _ _ rfl rfl rfl (Below.refl _ _)
        simp only [List.setIfInBounds_toArray, List.set_cons_zero, List.set_cons_succ]
        refine obs_step (Eq.trans (by simp only [List.getElem?_toArray, List.getElem?_cons_succ, List.getElem?_cons_zero]; exact rfl) rfl) rfl (fun w' hS hV K hK => ?_) ?_
        · obtain ⟨q0, q1⟩ := hS.1.two
          go_simp
          exact hK.out _ _ _ rfl rfl rfl (Below.refl _ _)
        simp only [List.setIfInBounds_toArray, List.set_cons_zero, List.set_cons_succ]
        refine obs_step (Eq.trans (by simp only [List.getElem?_toArray, List.getElem?_cons_succ, List.getElem?_cons_zero]; exact rfl) rfl) rfl (fun w' hS hV K hK => ?_) ?_
        · simp only [List.mem_cons, List.not_mem_nil, or_false, forall_eq_or_imp, forall_eq, List.getD_cons_succ, List.getD_cons_zero, VIs, VSl, VAny] at hV
          obtain ⟨e1, e2, e3⟩ := hV
          obtain ⟨q0, q1⟩ := hS.1.two
          go_simp
          refine (l04Times_any P A n c sq _ _ xs _ _ (invoL P ys) _ hp hp2 hn (ha.below hS.2.1) hs (hx.below hS.2.1) hxs (hY2.rd.below hS.2.2) (sgnL_nums (by omega) oddT hyn)).mono ?_
          rintro e w1 ⟨A2, c2, rfl, hM⟩
          exact hK.out _ _ _ rfl rfl ⟨_, _, rfl, hM.after hS.2.1⟩ hM.b
        simp only [List.setIfInBounds_toArray, List.set_cons_zero, List.set_cons_succ]
        refine obs_step (Eq.trans (by simp only [List.getElem?_toArray, List.getElem?_cons_succ, List.getElem?_cons_zero]; exact rfl) rfl) rfl (fun w' hS hV K hK => ?_) ?_
        · obtain ⟨q0, q1⟩ := hS.1.two
          go_simp
          exact hK.out _ _ _ rfl rfl rfl (Below.refl _ _)
        simp only [List.setIfInBounds_toArray, List.set_cons_zero, List.set_cons_succ]
        refine obs_step (Eq.trans (by simp only [List.getElem?_toArray, List.getElem?_cons_succ, List.getElem?_cons_zero]; exact rfl) rfl) rfl (fun w' hS hV K hK => ?_) ?_
        · obtain ⟨q0, q1⟩ := hS.1.two
          go_simp
          exact hK.out _ _ _ rfl rfl rfl (Below.refl _ _)
        simp only [List.setIfInBounds_toArray, List.set_cons_zero, List.set_cons_succ]
        refine obs_step (Eq.trans (by simp only [List.getElem?_toArray, List.getElem?_cons_succ, List.getElem?_cons_zero]; exact rfl) rfl) rfl (fun w' hS hV K hK => ?_) ?_
        · simp only [List.mem_cons, List.not_mem_nil, or_false, forall_eq_or_imp, forall_eq, List.getD_cons_succ, List.getD_cons_zero, VIs, VSl, VAny] at hV
          obtain ⟨e5, e6⟩ := hV
          obtain ⟨q0, q1⟩ := hS.1.two
          go_simp
          refine (l07Inverse_any P A n c sq _ _ xs _ hp hp2 hn (ha.below hS.2.1) hs (hx.below hS.2.1) hxs hcx HP hpos).mono ?_
          rintro e w1 ⟨A2, c2, rfl, hM⟩
          exact hK.out _ _ _ rfl rfl ⟨_, _, rfl, hM.after hS.2.1⟩ hM.b
        simp only [List.setIfInBounds_toArray, List.set_cons_zero, List.set_cons_succ]
        refine obs_step (Eq.trans (by simp only [List.getElem?_toArray, List.getElem?_cons_succ, List.getElem?_cons_zero]; exact rfl) rfl) rfl (fun w' hS hV K hK => ?_) ?_
        · simp only [List.mem_cons, List.not_mem_nil, or_false, forall_eq_or_imp, forall_eq, List.getD_cons_succ, List.getD_cons_zero, VIs, VSl, VAny] at hV
          obtain ⟨e0, e1, e2, e3, ⟨A4, c4, e4, h4⟩, e5, e6, ⟨A7, c7, e7, h7⟩⟩ := hV
          obtain ⟨q0, q1⟩ := hS.1.two
          go_simp
          refine (l04Times_any P A n c sq _ _ (mulL P sq xs (invoL P ys)) _ _ (vinvL P sq xs) _ hp hp2 hn (ha.below hS.2.1) hs h4.rd (mulL_nums (by omega) sq xs (invoL P ys)) h7.rd (vinvL_nums hp sq xs)).mono ?_
          rintro e w1 ⟨A2, c2, rfl, hM⟩
          exact hK.out _ _ _ rfl rfl ⟨_, _, rfl, hM.after hS.2.1⟩ hM.b
        simp only [List.setIfInBounds_toArray, List.set_cons_zero, List.set_cons_succ]
        refine obs_step (Eq.trans (by simp only [List.getElem?_toArray, List.getElem?_cons_succ, List.getElem?_cons_zero]; exact rfl) rfl) rfl (fun w' hS hV K hK => ?_) ?_
        · simp only [List.mem_cons, List.not_mem_nil, or_false, forall_eq_or_imp, forall_eq, List.getD_cons_succ, List.getD_cons_zero, VIs, VSl, VAny] at hV
          obtain ⟨e0, e1, e2, e3, ⟨A4, c4, e4, h4⟩, e5, e6, ⟨A7, c7, e7, h7⟩, ⟨A8, c8, e8, h8⟩⟩ := hV
          obtain ⟨q0, q1⟩ := hS.1.two
          go_simp
          exact hK.out _ _ _ rfl rfl ⟨_, _, rfl, h8⟩ (Below.refl _ _)
        simp only [List.setIfInBounds_toArray, List.set_cons_zero, List.set_cons_succ]
        refine obs_step (Eq.trans (by simp only [List.getElem?_toArray, List.getElem?_cons_succ, List.getElem?_cons_zero]; exact rfl) rfl) rfl (fun w' hS hV K hK => ?_) ?_
        · obtain ⟨q0, q1⟩ := hS.1.two
          go_simp
          exact hK.out _ _ _ rfl rfl rfl (Below.refl _ _)
        simp only [List.setIfInBounds_toArray, List.set_cons_zero, List.set_cons_succ]
        refine fun w' hS hV => ?_
        have hV := fun i hi => hV i (List.mem_range.1 hi)
        simp only [List.range, List.range.loop, List.mem_cons, List.not_mem_nil, or_false, forall_eq_or_imp, forall_eq, List.getD_cons_succ, List.getD_cons_zero, VIs, VSl, VAny] at hV
        obtain ⟨e0, e1, e2, e3, ⟨A4, c4, e4, h4⟩, e5, e6, ⟨A7, c7, e7, h7⟩, ⟨A8, c8, e8, h8⟩, ⟨A9, c9, e9, h9⟩, e10⟩ := hV
        simp only [e0, e1, e2, e3, e4, e5, e6, e7, e8, e9, e10]
        clear e0 e1 e2 e3 e4 e5 e6 e7 e8 e9 e10
        refine wpAny_done (by kernel_rfl) ?_ _
        go_wp2
        go_ret2
        exact a_list (by rw [sandMR_ok HCM.out HR1.out]; unfold sandM; rw [HEV.out, if_neg (by decide)]) h9
      · have HEV := Lib.hid hev
        clear hev
        go_enter Tryz.func51, Tryz.ntmps51
        go_wp2_with fail
        refine (hreg).mono ?_
        rintro e w2 ⟨rfl, hb2⟩
        have hB2 := hB1.trans (hb2.mono hB1.size)
        have k2 := k1.below hb2 k1.lt
        obtain ⟨q0, q1⟩ := k2.two
        clear k1 hB1 hb2
        go_wp2_with fail
        refine (hvr _ hB2).mono ?_
        rintro e w3 ⟨rfl, hb3⟩
        rw [← HR.out]
        clear q0 q1
        have hB3 := hB2.trans (hb3.mono hB2.size)
        have k3 := k2.below hb3 k2.lt
        obtain ⟨q0, q1⟩ := k3.two
        go_wp2_with fail
        refine (l04Even_any P A n c X cx xs _ HP hn6 (hx.below hB3) HXS.out).mono ?_
        rintro e w4 ⟨rfl, hb4⟩
        rw [HEV.out]
        clear q0 q1
        have hB4 := hB3.trans (hb4.mono hB3.size)
        have k4 := k3.below hb4 k3.lt
        obtain ⟨q0, q1⟩ := k4.two
        clear hn
        have hn := hn6
        have hs := HS.out
        have hxs := HXS.out
        have HPW : pw n ≤ 65536 := Nat.le_trans (pw_le (show n ≤ 10 by omega)) (by decide)
        have HPW64 : pw n ≤ 64 := pw_le hn
        go_wp2
        refine wp_obs 11 [[], [], [], [], [1, 2, 3], [], [], [5, 6], [0, 1, 2, 3, 4, 5, 6, 7], [0, 1, 2, 3, 4, 5, 6, 7, 8], []] [VIs (.agg #[.int .i64 P, .slice A n c]), VIs (.agg #[.int .i64 P, .slice A n c]), VIs (.slice X (pw n) cx), VIs (.slice Y (pw n) cy), VSl w (pw n) (mulL P sq xs ys), VIs (.agg #[.int .i64 P, .slice A n c]), VIs (.slice X (pw n) cx), VSl w (pw n) (vinvL P sq xs), VSl w (pw n) (mulL P sq (mulL P sq xs ys) (vinvL P sq xs)), VSl w (pw n) (mulL P sq (mulL P sq xs ys) (vinvL P sq xs)), VIs (.int .i64 0)] (fun w' => Blk w' w.heap.size 26 #[.int .i64 P, .slice A n c] ∧ Below w.heap.size w w' ∧ Below w4.heap.size w4 w') (by kernel_rfl) (by kernel_rfl) (fun _ _ h hb => ⟨h.1.below hb h.1.lt, h.2.1.trans (hb.mono h.2.1.size), h.2.2.trans (hb.mono h.2.2.size)⟩) (⟨k4.drew, hB4.drew, (Below.refl _ _).drew⟩) (fun x => ?_)
        refine obs_step (Eq.trans (by simp only [List.getElem?_toArray, List.getElem?_cons_zero]; exact rfl) rfl) rfl (fun w' hS hV K hK => ?_) ?_
        · obtain ⟨q0, q1⟩ := hS.1.two
          go_simp
          exact hK.out _ _ _ rfl rfl rfl (Below.refl _ _)
        simp only [List.setIfInBounds_toArray, List.set_cons_zero, List.set_cons_succ]
        refine obs_step (Eq.trans (by simp only [List.getElem?_toArray, List.getElem?_cons_succ, List.getElem?_cons_zero]; exact rfl) rfl) rfl (fun w' hS hV K hK => ?_) ?_
        · obtain ⟨q0, q1⟩ := hS.1.two
          go_simp
          exact hK.out _ _ _ rfl rfl rfl (Below.refl _ _)
        simp only [List.setIfInBounds_toArray, List.set_cons_zero, List.set_cons_succ]
        refine obs_step (Eq.trans (by simp only [List.getElem?_toArray, List.getElem?_cons_succ, List.getElem?_cons_zero]; exact rfl) rfl) rfl (fun w' hS hV K hK => ?_) ?_
        · obtain ⟨q0, q1⟩ := hS.1.two
          go_simp
          exact hK.out _ _ _ rfl rfl rfl (Below.refl _ _)
        simp only [List.setIfInBounds_toArray, List.set_cons_zero, List.set_cons_succ]
        refine obs_step (Eq.trans (by simp only [List.getElem?_toArray, List.getElem?_cons_succ, List.getElem?_cons_zero]; exact rfl) rfl) rfl (fun w' hS hV K hK => ?_) ?_
        · obtain ⟨q0, q1⟩ := hS.1.two
          go_simp
          exact hK.out _ _ _ rfl rfl rfl (Below.refl _ _)
        simp only [List.setIfInBounds_toArray, List.set_cons_zero, List.set_cons_succ]
        refine obs_step (Eq.trans (by simp only [List.getElem?_toArray, List.getElem?_cons_succ, List.getElem?_cons_zero]; exact rfl) rfl) rfl (fun w' hS hV K hK => ?_) ?_
        · simp only [List.mem_cons, List.not_mem_nil, or_false, forall_eq_or_imp, forall_eq, List.getD_cons_succ, List.getD_cons_zero, VIs, VSl, VAny] at hV
          obtain ⟨e1, e2, e3⟩ := hV
          obtain ⟨q0, q1⟩ := hS.1.two
          go_simp
          refine (l04Times_any P A n c sq _ _ xs _ _ ys _ hp hp2 hn (ha.below hS.2.1) hs (hx.below hS.2.1) hxs (hy.below hS.2.1) hyn).mono ?_
          rintro e w1 ⟨A2, c2, rfl, hM⟩
          exact hK.out _ _ _ rfl rfl ⟨_, _, rfl, hM.after hS.2.1⟩ hM.b
        simp only [List.setIfInBounds_toArray, List.set_cons_zero, List.set_cons_succ]
        refine obs_step (Eq.trans (by simp only [List.getElem?_toArray, List.getElem?_cons_succ, List.getElem?_cons_zero]; exact rfl) rfl) rfl (fun w' hS hV K hK => ?_) ?_
        · obtain ⟨q0, q1⟩ := hS.1.two
          go_simp
          exact hK.out _ _ _ rfl rfl rfl (Below.refl _ _)
        simp only [List.setIfInBounds_toArray, List.set_cons_zero, List.set_cons_succ]
        refine obs_step (Eq.trans (by simp only [List.getElem?_toArray, List.getElem?_cons_succ, List.getElem?_cons_zero]; exact rfl) rfl) rfl (fun w' hS hV K hK => ?_) ?_
        · obtain ⟨q0, q1⟩ := hS.1.two
          go_simp
          exact hK.out _ _ _ rfl rfl rfl (Below.refl _ _)
        simp only [List.setIfInBounds_toArray, List.set_cons_zero, List.set_cons_succ]
        refine obs_step (Eq.trans (by simp only [List.getElem?_toArray, List.getElem?_cons_succ, List.getElem?_cons_zero]; exact rfl) rfl) rfl (fun w' hS hV K hK => ?_) ?_
        · simp only [List.mem_cons, List.not_mem_nil, or_false, forall_eq_or_imp, forall_eq, List.getD_cons_succ, List.getD_cons_zero, VIs, VSl, VAny] at hV
          obtain ⟨e5, e6⟩ := hV
          obtain ⟨q0, q1⟩ := hS.1.two
          go_simp
          refine (l07Inverse_any P A n c sq _ _ xs _ hp hp2 hn (ha.below hS.2.1) hs (hx.below hS.2.1) hxs hcx HP hpos).mono ?_
          rintro e w1 ⟨A2, c2, rfl, hM⟩
          exact hK.out _ _ _ rfl rfl ⟨_, _, rfl, hM.after hS.2.1⟩ hM.b
        simp only [List.setIfInBounds_toArray, List.set_cons_zero, List.set_cons_succ]
        refine obs_step (Eq.trans (by simp only [List.getElem?_toArray, List.getElem?_cons_succ, List.getElem?_cons_zero]; exact rfl) rfl) rfl (fun w' hS hV K hK => ?_) ?_
        · simp only [List.mem_cons, List.not_mem_nil, or_false, forall_eq_or_imp, forall_eq, List.getD_cons_succ, List.getD_cons_zero, VIs, VSl, VAny] at hV
          obtain ⟨e0, e1, e2, e3, ⟨A4, c4, e4, h4⟩, e5, e6, ⟨A7, c7, e7, h7⟩⟩ := hV
          obtain ⟨q0, q1⟩ := hS.1.two
          go_simp
          refine (l04Times_any P A n c sq _ _ (mulL P sq xs ys) _ _ (vinvL P sq xs) _ hp hp2 hn (ha.below hS.2.1) hs h4.rd (mulL_nums (by omega) sq xs ys) h7.rd (vinvL_nums hp sq xs)).mono ?_
          rintro e w1 ⟨A2, c2, rfl, hM⟩
          exact hK.out _ _ _ rfl rfl ⟨_, _, rfl, hM.after hS.2.1⟩ hM.b
        simp only [List.setIfInBounds_toArray, List.set_cons_zero, List.set_cons_succ]
        refine obs_step (Eq.trans (by simp only [List.getElem?_toArray, List.getElem?_cons_succ, List.getElem?_cons_zero]; exact rfl) rfl) rfl (fun w' hS hV K hK => ?_) ?_
        · simp only [List.mem_cons, List.not_mem_nil, or_false, forall_eq_or_imp, forall_eq, List.getD_cons_succ, List.getD_cons_zero, VIs, VSl, VAny] at hV
          obtain ⟨e0, e1, e2, e3, ⟨A4, c4, e4, h4⟩, e5, e6, ⟨A7, c7, e7, h7⟩, ⟨A8, c8, e8, h8⟩⟩ := hV
          obtain ⟨q0, q1⟩ := hS.1.two
          go_simp
          exact hK.out _ _ _ rfl rfl ⟨_, _, rfl, h8⟩ (Below.refl _ _)
        simp only [List.setIfInBounds_toArray, List.set_cons_zero, List.set_cons_succ]
        refine obs_step (Eq.trans (by simp only [List.getElem?_toArray, List.getElem?_cons_succ, List.getElem?_cons_zero]; exact rfl) rfl) rfl (fun w' hS hV K hK => ?_) ?_
        · obtain ⟨q0, q1⟩ := hS.1.two
          go_simp
          exact hK.out _ _ _ rfl rfl rfl (Below.refl _ _)
        simp only [List.setIfInBounds_toArray, List.set_cons_zero, List.set_cons_succ]
        refine fun w' hS hV => ?_
        have hV := fun i hi => hV i (List.mem_range.1 hi)
        simp only [List.range, List.range.loop, List.mem_cons, List.not_mem_nil, or_false, forall_eq_or_imp, forall_eq, List.getD_cons_succ, List.getD_cons_zero, VIs, VSl, VAny] at hV
        obtain ⟨e0, e1, e2, e3, ⟨A4, c4, e4, h4⟩, e5, e6, ⟨A7, c7, e7, h7⟩, ⟨A8, c8, e8, h8⟩, ⟨A9, c9, e9, h9⟩, e10⟩ := hV
        simp only [e0, e1, e2, e3, e4, e5, e6, e7, e8, e9, e10]
        clear e0 e1 e2 e3 e4 e5 e6 e7 e8 e9 e10
        refine wpAny_done (by kernel_rfl) ?_ _
        go_wp2
        go_ret2
        exact a_list (by rw [sandMR_ok HCM.out HR1.out]; unfold sandM; rw [HEV.out, if_pos rfl]) h9
    · have HR1 := Lib.hid hr1
      have b0 : (r != 0) = true := code_ne hr1
      have b0' : (r == 0) = false := by simp [hr1]
      clear hr hr1
      go_enter Tryz.func51, Tryz.ntmps51
      go_wp2_with fail
      refine (hreg).mono ?_
      rintro e w2 ⟨rfl, hb2⟩
      have hB2 := hB1.trans (hb2.mono hB1.size)
      have k2 := k1.below hb2 k1.lt
      obtain ⟨q0, q1⟩ := k2.two
      clear k1 hB1 hb2
      go_wp2_with fail
      refine (hvr _ hB2).mono ?_
      rintro e w3 ⟨rfl, hb3⟩
      rw [← HR.out]
      clear q0 q1
      have hB3 := hB2.trans (hb3.mono hB2.size)
      have k3 := k2.below hb3 k2.lt
      obtain ⟨q0, q1⟩ := k3.two
      go_wp2
      go_ret2
      exact no_list (by rw [sandMR_vr HCM.out (by rw [← HR.out]; exact HR1.out), HR.out]) hB3
  · obtain ⟨r, hr⟩ : ∃ r, r = codeM P sq [xs, ys] := ⟨_, rfl⟩
    have HR := Lib.hid hr
    have HR0 := Lib.hid hr0
    have b0 : (r != 0) = true := code_ne (by rw [hr]; exact hr0)
    have b0' : (r == 0) = false := by rw [hr]; simp [hr0]
    clear hr hr0
    go_enter Tryz.func51, Tryz.ntmps51
    go_wp2_with fail
    refine (hreg).mono ?_
    rintro e w2 ⟨rfl, hb2⟩
    rw [← HR.out]
    have hB2 := hB1.trans (hb2.mono hB1.size)
    have k2 := k1.below hb2 k1.lt
    obtain ⟨q0, q1⟩ := k2.two
    go_wp2
    go_ret2
    exact no_list (by rw [sandMR_m HR0.out, HR.out]) hB2
set_option maxHeartbeats 3200000 in
set_option maxRecDepth 8000 in
theorem UnitVersor_any (P : Int) (A : Option Addr) (n c : Nat) (sq : List Int) (X : Option Addr) (m cx : Nat) (xs : List Int) (w : World) (hn : n ≤ 1048576) (hm : m ≤ 1048576) (ha : Rd w A n (ints sq)) (hx : Rd w X m (ints xs)) (hcx : m ≤ cx) :
    Calls Tryz.prog 55 #[.agg #[.int .i64 P, .slice A n c], .slice X m cx] w fun e w' => ∃ (A' : Option Addr) (k c' : Nat), e = .returned (.tuple #[.slice A' k c', .int .i64 (unitR P sq xs).2]) ∧ MkI w w' A' k c' (unitR P sq xs).1 := by
  have hB0 : Below w.heap.size w (w.alloc (.cells #[.int .i64 P, .slice A n c] 26)) := (Below.refl _ _).alloc (Nat.le_refl _) _
  have k0 : Blk (w.alloc (.cells #[.int .i64 P, .slice A n c] 26)) w.heap.size 26 #[.int .i64 P, .slice A n c] := Blk.new _ _ _
  have hB1 : Below w.heap.size w ((w.alloc (.cells #[.int .i64 P, .slice A n c] 26)).alloc (.cells #[.slice X m cx] 24)) := hB0.alloc (by simp) _
  have k1 : Blk ((w.alloc (.cells #[.int .i64 P, .slice A n c] 26)).alloc (.cells #[.slice X m cx] 24)) w.heap.size 26 #[.int .i64 P, .slice A n c] := k0.alloc _
  have hreg := checkVersors_any P A (some ⟨w.heap.size + 1, 0, none⟩) none n c 1 1 0 0 sq [xs] [] ((w.alloc (.cells #[.int .i64 P, .slice A n c] 26)).alloc (.cells #[.slice X m cx] 24)) hn (by omega) (by omega) (ha.below hB1) (rdII_one' (Blk.new_at (by simp)) (hx.below hB1) hcx) (all_one (by rw [hx.lenI]; exact hm)) (RdII.nil _ _) (by simp)
  rw [codeVs_nil] at hreg
  by_cases hr0 : codeR P sq [xs] = 0
  · skip
    have hcM := (codeR_zero hr0).1
    have HCR := Lib.hid hr0
    rw [hr0] at hreg
    clear hr0
    obtain ⟨HP, hp, hp2, hd1, hd2, hs, hms⟩ := codeM_spec hcM
    have hxl := hx.lenI
    have hsl := ha.lenI
    obtain ⟨hl1, hxs⟩ := hms xs (by simp)
    have hn6 : n ≤ 6 := by omega
    have hmn : m = pw n := by rw [← hxl, hl1, hsl]
    subst hmn
    have HSL := Lib.hid hsl
    have HS := Lib.hid hs
    have HXS := Lib.hid hxs
    clear hxl hsl hms hl1 hd1 hd2 hcM hs hxs
    cases hrt : rootF P (nrmL P sq xs) P.toNat 0 with
    | none =>
      have HRT := Lib.hid hrt
      clear hrt
      go_enter Tryz.func55, Tryz.ntmps55
      go_wp2_with fail
      refine (hreg).mono ?_
      rintro e w2 ⟨rfl, hb2⟩
      have hB2 := hB1.trans (hb2.mono hB1.size)
      have k2 := k1.below hb2 k1.lt
      obtain ⟨q0, q1⟩ := k2.two
      clear k1 hB1 hb2
      clear hn
      have hn := hn6
      have hs := HS.out
      have hxs := HXS.out
      have HPW : pw n ≤ 65536 := Nat.le_trans (pw_le (show n ≤ 10 by omega)) (by decide)
      have HPW64 : pw n ≤ 64 := pw_le hn
      go_wp2
      refine wp_obs 11 [[], [0], [], [], [2, 3], [0, 1, 2, 3, 4], [0, 1, 2, 3, 4, 5], [0, 1, 2, 3, 4, 5, 6], [0, 1, 2, 3, 4, 5, 6], [0, 1, 2, 3, 4, 5, 6, 7], [0, 1, 2, 3, 4, 5, 6, 8]] [VIs (.agg #[.int .i64 P, .slice A n c]), VIs (.int .i64 P), VIs (.agg #[.int .i64 P, .slice A n c]), VIs (.slice X (pw n) cx), VIs (.int .i64 (nrmL P sq xs)), VIs (.tuple #[.int .i64 0, .bool false]), VIs (.tuple #[.int .i64 0, .bool false]), VIs (.int .i64 0), VIs (.bool false), VIs (.int .i64 0), VIs (.bool false)] (fun w' => Blk w' w.heap.size 26 #[.int .i64 P, .slice A n c] ∧ Below w.heap.size w w') (by kernel_rfl) (by kernel_rfl) (fun _ _ h hb => ⟨h.1.below hb h.1.lt, h.2.trans (hb.mono h.2.size)⟩) (⟨k2.drew, hB2.drew⟩) (fun x => ?_)
      refine obs_step (Eq.trans (by simp only [List.getElem?_toArray, List.getElem?_cons_zero]; exact rfl) rfl) rfl (fun w' hS hV K hK => ?_) ?_
      · obtain ⟨q0, q1⟩ := hS.1.two
        go_simp
        exact hK.out _ _ _ rfl rfl rfl (Below.refl _ _)
      simp only [List.setIfInBounds_toArray, List.set_cons_zero, List.set_cons_succ]
      refine obs_step (Eq.trans (by simp only [List.getElem?_toArray, List.getElem?_cons_succ, List.getElem?_cons_zero]; exact rfl) rfl) rfl (fun w' hS hV K hK => ?_) ?_
      · simp only [List.mem_cons, List.not_mem_nil, or_false, forall_eq, List.getD_cons_succ, List.getD_cons_zero, VIs, VAny] at hV
        obtain e0 := hV
        obtain ⟨q0, q1⟩ := hS.1.two
        go_simp
        refine (field_any _ _ _ _ _).mono ?_
        rintro e w1 ⟨rfl, hb⟩
        exact hK.out _ _ _ rfl rfl rfl hb
      simp only [List.setIfInBounds_toArray, List.set_cons_zero, List.set_cons_succ]
      refine obs_step (Eq.trans (by simp only [List.getElem?_toArray, List.getElem?_cons_succ, List.getElem?_cons_zero]; exact rfl) rfl) rfl (fun w' hS hV K hK => ?_) ?_
      · obtain ⟨q0, q1⟩ := hS.1.two
        go_simp
        exact hK.out _ _ _ rfl rfl rfl (Below.refl _ _)
      simp only [List.setIfInBounds_toArray, List.set_cons_zero, List.set_cons_succ]
      refine obs_step (Eq.trans (by simp only [List.getElem?_toArray, List.getElem?_cons_succ, List.getElem?_cons_zero]; exact rfl) rfl) rfl (fun w' hS hV K hK => ?_) ?_
      · obtain ⟨q0, q1⟩ := hS.1.two
        go_simp
        exact hK.out _ _ _ rfl rfl rfl (Below.refl _ _)
      simp only [List.setIfInBounds_toArray, List.set_cons_zero, List.set_cons_succ]
      refine obs_step (Eq.trans (by simp only [List.getElem?_toArray, List.getElem?_cons_succ, List.getElem?_cons_zero]; exact rfl) rfl) rfl (fun w' hS hV K hK => ?_) ?_
      · simp only [List.mem_cons, List.not_mem_nil, or_false, forall_eq_or_imp, forall_eq, List.getD_cons_succ, List.getD_cons_zero, VIs, VAny] at hV
        obtain ⟨e2, e3⟩ := hV
        obtain ⟨q0, q1⟩ := hS.1.two
        go_simp
        refine (spinorNorm_any P A n c sq _ _ xs _ hp hp2 hn (ha.below hS.2) hs (hx.below hS.2) hxs hcx).mono ?_
        rintro e w1 ⟨rfl, hb⟩
        exact hK.out _ _ _ rfl rfl rfl hb
      simp only [List.setIfInBounds_toArray, List.set_cons_zero, List.set_cons_succ]
      refine obs_step (Eq.trans (by simp only [List.getElem?_toArray, List.getElem?_cons_succ, List.getElem?_cons_zero]; exact rfl) rfl) rfl (fun w' hS hV K hK => ?_) ?_
      · simp only [List.mem_cons, List.not_mem_nil, or_false, forall_eq_or_imp, forall_eq, List.getD_cons_succ, List.getD_cons_zero, VIs, VAny] at hV
        obtain ⟨e0, e1, e2, e3, e4⟩ := hV
        obtain ⟨q0, q1⟩ := hS.1.two
        go_simp
        refine (root_none _ hp hp2 HRT.out).mono ?_
        rintro e w1 ⟨rfl, rfl⟩
        exact hK.out _ _ _ rfl rfl rfl (Below.refl _ _)
      simp only [List.setIfInBounds_toArray, List.set_cons_zero, List.set_cons_succ]
      refine obs_step (Eq.trans (by simp only [List.getElem?_toArray, List.getElem?_cons_succ, List.getElem?_cons_zero]; exact rfl) rfl) rfl (fun w' hS hV K hK => ?_) ?_
      · simp only [List.mem_cons, List.not_mem_nil, or_false, forall_eq_or_imp, forall_eq, List.getD_cons_succ, List.getD_cons_zero, VIs, VAny] at hV
        obtain ⟨e0, e1, e2, e3, e4, e5⟩ := hV
        obtain ⟨q0, q1⟩ := hS.1.two
        go_simp
        exact hK.out _ _ _ rfl rfl rfl (Below.refl _ _)
      simp only [List.setIfInBounds_toArray, List.set_cons_zero, List.set_cons_succ]
      refine obs_step (Eq.trans (by simp only [List.getElem?_toArray, List.getElem?_cons_succ, List.getElem?_cons_zero]; exact rfl) rfl) rfl (fun w' hS hV K hK => ?_) ?_
      · simp only [List.mem_cons, List.not_mem_nil, or_false, forall_eq_or_imp, forall_eq, List.getD_cons_succ, List.getD_cons_zero, VIs, VAny] at hV
        obtain ⟨e0, e1, e2, e3, e4, e5, e6⟩ := hV
        obtain ⟨q0, q1⟩ := hS.1.two
        go_simp
        exact hK.out _ _ _ rfl rfl rfl (Below.refl _ _)
      simp only [List.setIfInBounds_toArray, List.set_cons_zero, List.set_cons_succ]
      refine obs_step (Eq.trans (by simp only [List.getElem?_toArray, List.getElem?_cons_succ, List.getElem?_cons_zero]; exact rfl) rfl) rfl (fun w' hS hV K hK => ?_) ?_
      · simp only [List.mem_cons, List.not_mem_nil, or_false, forall_eq_or_imp, forall_eq, List.getD_cons_succ, List.getD_cons_zero, VIs, VAny] at hV
        obtain ⟨e0, e1, e2, e3, e4, e5, e6⟩ := hV
        obtain ⟨q0, q1⟩ := hS.1.two
        go_simp
        exact hK.out _ _ _ rfl rfl rfl (Below.refl _ _)
      simp only [List.setIfInBounds_toArray, List.set_cons_zero, List.set_cons_succ]
      refine obs_step (Eq.trans (by simp only [List.getElem?_toArray, List.getElem?_cons_succ, List.getElem?_cons_zero]; exact rfl) rfl) rfl (fun w' hS hV K hK => ?_) ?_
      · simp only [List.mem_cons, List.not_mem_nil, or_false, forall_eq_or_imp, forall_eq, List.getD_cons_succ, List.getD_cons_zero, VIs, VAny] at hV
        obtain ⟨e0, e1, e2, e3, e4, e5, e6, e7⟩ := hV
        obtain ⟨q0, q1⟩ := hS.1.two
        go_simp
        exact hK.out _ _ _ rfl rfl rfl (Below.refl _ _)
      simp only [List.setIfInBounds_toArray, List.set_cons_zero, List.set_cons_succ]
      refine obs_step (Eq.trans (by simp only [List.getElem?_toArray, List.getElem?_cons_succ, List.getElem?_cons_zero]; exact rfl) rfl) rfl (fun w' hS hV K hK => ?_) ?_
      · simp only [List.mem_cons, List.not_mem_nil, or_false, forall_eq_or_imp, forall_eq, List.getD_cons_succ, List.getD_cons_zero, VIs, VAny] at hV
        obtain ⟨e0, e1, e2, e3, e4, e5, e6, e8⟩ := hV
        obtain ⟨q0, q1⟩ := hS.1.two
        go_simp
        exact hK.out _ _ _ rfl rfl rfl (Below.refl _ _)
      simp only [List.setIfInBounds_toArray, List.set_cons_zero, List.set_cons_succ]
      refine fun w' hS hV => ?_
      have hV := fun i hi => hV i (List.mem_range.1 hi)
      simp only [List.range, List.range.loop, List.mem_cons, List.not_mem_nil, or_false, forall_eq_or_imp, forall_eq, List.getD_cons_succ, List.getD_cons_zero, VIs, VAny] at hV
      obtain ⟨e0, e1, e2, e3, e4, e5, e6, e7, e8, e9, e10⟩ := hV
      simp only [e0, e1, e2, e3, e4, e5, e6, e7, e8, e9, e10]
      clear e0 e1 e2 e3 e4 e5 e6 e7 e8 e9 e10
      refine wpAny_done (by kernel_rfl) ?_ _
      obtain ⟨w3, hw3⟩ : ∃ W, W = w' := ⟨_, rfl⟩
      rw [← hw3] at hS ⊢
      clear hw3
      obtain ⟨k3, hB3⟩ := hS
      clear q0 q1 k2 hB2
      obtain ⟨q0, q1⟩ := k3.two
      go_wp2
      go_ret2
      exact no_list (unitR_5 HCR.out HRT.out) hB3
    | some rt =>
      have HRT := Lib.hid hrt
      clear hrt
      cases hv : versB P sq n xs
      · have HV := Lib.hid hv
        clear hv
        go_enter Tryz.func55, Tryz.ntmps55
        go_wp2_with fail
        refine (hreg).mono ?_
        rintro e w2 ⟨rfl, hb2⟩
        have hB2 := hB1.trans (hb2.mono hB1.size)
        have k2 := k1.below hb2 k1.lt
        obtain ⟨q0, q1⟩ := k2.two
        clear k1 hB1 hb2
        clear hn
        have hn := hn6
        have hs := HS.out
        have hxs := HXS.out
        have HPW : pw n ≤ 65536 := Nat.le_trans (pw_le (show n ≤ 10 by omega)) (by decide)
        have HPW64 : pw n ≤ 64 := pw_le hn
        go_wp2
        refine wp_obs 11 [[], [0], [], [], [2, 3], [0, 1, 2, 3, 4], [0, 1, 2, 3, 4, 5], [0, 1, 2, 3, 4, 5, 6], [0, 1, 2, 3, 4, 5, 6], [0, 1, 2, 3, 4, 5, 6, 7], [0, 1, 2, 3, 4, 5, 6, 8]] [VIs (.agg #[.int .i64 P, .slice A n c]), VIs (.int .i64 P), VIs (.agg #[.int .i64 P, .slice A n c]), VIs (.slice X (pw n) cx), VIs (.int .i64 (nrmL P sq xs)), VIs (.tuple #[.int .i64 rt, .bool true]), VIs (.tuple #[.int .i64 rt, .bool true]), VIs (.int .i64 rt), VIs (.bool true), VIs (.int .i64 rt), VIs (.bool true)] (fun w' => Blk w' w.heap.size 26 #[.int .i64 P, .slice A n c] ∧ Below w.heap.size w w') (by kernel_rfl) (by kernel_rfl) (fun _ _ h hb => ⟨h.1.below hb h.1.lt, h.2.trans (hb.mono h.2.size)⟩) (⟨k2.drew, hB2.drew⟩) (fun x => ?_)
        refine obs_step (Eq.trans (by simp only [List.getElem?_toArray, List.getElem?_cons_zero]; exact rfl) rfl) rfl (fun w' hS hV K hK => ?_) ?_
        · obtain ⟨q0, q1⟩ := hS.1.two
          go_simp
          exact hK.out _ _ _ rfl rfl rfl (Below.refl _ _)
        simp only [List.setIfInBounds_toArray, List.set_cons_zero, List.set_cons_succ]
        refine obs_step (Eq.trans (by simp only [List.getElem?_toArray, List.getElem?_cons_succ, List.getElem?_cons_zero]; exact rfl) rfl) rfl (fun w' hS hV K hK => ?_) ?_
        · simp only [List.mem_cons, List.not_mem_nil, or_false, forall_eq, List.getD_cons_succ, List.getD_cons_zero, VIs, VAny] at hV
          obtain e0 := hV
          obtain ⟨q0, q1⟩ := hS.1.two
          go_simp
          refine (field_any _ _ _ _ _).mono ?_
          rintro e w1 ⟨rfl, hb⟩
          exact hK.out _ _ _ rfl rfl rfl hb
        simp only [List.setIfInBounds_toArray, List.set_cons_zero, List.set_cons_succ]
        refine obs_step (Eq.trans (by simp only [List.getElem?_toArray, List.getElem?_cons_succ, List.getElem?_cons_zero]; exact rfl) rfl) rfl (fun w' hS hV K hK => ?_) ?_
        · obtain ⟨q0, q1⟩ := hS.1.two
          go_simp
          exact hK.out _ _ _ rfl rfl rfl (Below.refl _ _)
        simp only [List.setIfInBounds_toArray, List.set_cons_zero, List.set_cons_succ]
        refine obs_step (Eq.trans (by simp only [List.getElem?_toArray, List.getElem?_cons_succ, List.getElem?_cons_zero]; exact rfl) rfl) rfl (fun w' hS hV K hK => ?_) ?_
        · obtain ⟨q0, q1⟩ := hS.1.two
          go_simp
          exact hK.out _ _ _ rfl rfl rfl (Below.refl _ _)
        simp only [List.setIfInBounds_toArray, List.set_cons_zero, List.set_cons_succ]
        refine obs_step (Eq.trans (by simp only [List.getElem?_toArray, List.getElem?_cons_succ, List.getElem?_cons_zero]; exact rfl) rfl) rfl (fun w' hS hV K hK => ?_) ?_
        · simp only [List.mem_cons, List.not_mem_nil, or_false, forall_eq_or_imp, forall_eq, List.getD_cons_succ, List.getD_cons_zero, VIs, VAny] at hV
          obtain ⟨e2, e3⟩ := hV
          obtain ⟨q0, q1⟩ := hS.1.two
          go_simp
          refine (spinorNorm_any P A n c sq _ _ xs _ hp hp2 hn (ha.below hS.2) hs (hx.below hS.2) hxs hcx).mono ?_
          rintro e w1 ⟨rfl, hb⟩
          exact hK.out _ _ _ rfl rfl rfl hb
        simp only [List.setIfInBounds_toArray, List.set_cons_zero, List.set_cons_succ]
        refine obs_step (Eq.trans (by simp only [List.getElem?_toArray, List.getElem?_cons_succ, List.getElem?_cons_zero]; exact rfl) rfl) rfl (fun w' hS hV K hK => ?_) ?_
        · simp only [List.mem_cons, List.not_mem_nil, or_false, forall_eq_or_imp, forall_eq, List.getD_cons_succ, List.getD_cons_zero, VIs, VAny] at hV
          obtain ⟨e0, e1, e2, e3, e4⟩ := hV
          obtain ⟨q0, q1⟩ := hS.1.two
          go_simp
          refine (root_some _ hp hp2 HRT.out).mono ?_
          rintro e w1 ⟨rfl, rfl⟩
          exact hK.out _ _ _ rfl rfl rfl (Below.refl _ _)
        simp only [List.setIfInBounds_toArray, List.set_cons_zero, List.set_cons_succ]
        refine obs_step (Eq.trans (by simp only [List.getElem?_toArray, List.getElem?_cons_succ, List.getElem?_cons_zero]; exact rfl) rfl) rfl (fun w' hS hV K hK => ?_) ?_
        · simp only [List.mem_cons, List.not_mem_nil, or_false, forall_eq_or_imp, forall_eq, List.getD_cons_succ, List.getD_cons_zero, VIs, VAny] at hV
          obtain ⟨e0, e1, e2, e3, e4, e5⟩ := hV
          obtain ⟨q0, q1⟩ := hS.1.two
          go_simp
          exact hK.out _ _ _ rfl rfl rfl (Below.refl _ _)
        simp only [List.setIfInBounds_toArray, List.set_cons_zero, List.set_cons_succ]
        refine obs_step (Eq.trans (by simp only [List.getElem?_toArray, List.getElem?_cons_succ, List.getElem?_cons_zero]; exact rfl) rfl) rfl (fun w' hS hV K hK => ?_) ?_
        · simp only [List.mem_cons, List.not_mem_nil, or_false, forall_eq_or_imp, forall_eq, List.getD_cons_succ, List.getD_cons_zero, VIs, VAny] at hV
          obtain ⟨e0, e1, e2, e3, e4, e5, e6⟩ := hV
          obtain ⟨q0, q1⟩ := hS.1.two
          go_simp
          exact hK.out _ _ _ rfl rfl rfl (Below.refl _ _)
        simp only [List.setIfInBounds_toArray, List.set_cons_zero, List.set_cons_succ]
        refine obs_step (Eq.trans (by simp only [List.getElem?_toArray, List.getElem?_cons_succ, List.getElem?_cons_zero]; exact rfl) rfl) rfl (fun w' hS hV K hK => ?_) ?_
        · simp only [List.mem_cons, List.not_mem_nil, or_false, forall_eq_or_imp, forall_eq, List.getD_cons_succ, List.getD_cons_zero, VIs, VAny] at hV
          obtain ⟨e0, e1, e2, e3, e4, e5, e6⟩ := hV
          obtain ⟨q0, q1⟩ := hS.1.two
          go_simp
          exact hK.out _ _ _ rfl rfl rfl (Below.refl _ _)
        simp only [List.setIfInBounds_toArray, List.set_cons_zero, List.set_cons_succ]
        refine obs_step (Eq.trans (by simp only [List.getElem?_toArray, List.getElem?_cons_succ, List.getElem?_cons_zero]; exact rfl) rfl) rfl (fun w' hS hV K hK => ?_) ?_
        · simp only [List.mem_cons, List.not_mem_nil, or_false, forall_eq_or_imp, forall_eq, List.getD_cons_succ, List.getD_cons_zero, VIs, VAny] at hV
          obtain ⟨e0, e1, e2, e3, e4, e5, e6, e7⟩ := hV
          obtain ⟨q0, q1⟩ := hS.1.two
          go_simp
          exact hK.out _ _ _ rfl rfl rfl (Below.refl _ _)
        simp only [List.setIfInBounds_toArray, List.set_cons_zero, List.set_cons_succ]
        refine obs_step (Eq.trans (by simp only [List.getElem?_toArray, List.getElem?_cons_succ, List.getElem?_cons_zero]; exact rfl) rfl) rfl (fun w' hS hV K hK => ?_) ?_
        · simp only [List.mem_cons, List.not_mem_nil, or_false, forall_eq_or_imp, forall_eq, List.getD_cons_succ, List.getD_cons_zero, VIs, VAny] at hV
          obtain ⟨e0, e1, e2, e3, e4, e5, e6, e8⟩ := hV
          obtain ⟨q0, q1⟩ := hS.1.two
          go_simp
          exact hK.out _ _ _ rfl rfl rfl (Below.refl _ _)
        simp only [List.setIfInBounds_toArray, List.set_cons_zero, List.set_cons_succ]
        refine fun w' hS hV => ?_
        have hV := fun i hi => hV i (List.mem_range.1 hi)
        simp only [List.range, List.range.loop, List.mem_cons, List.not_mem_nil, or_false, forall_eq_or_imp, forall_eq, List.getD_cons_succ, List.getD_cons_zero, VIs, VAny] at hV
        obtain ⟨e0, e1, e2, e3, e4, e5, e6, e7, e8, e9, e10⟩ := hV
        simp only [e0, e1, e2, e3, e4, e5, e6, e7, e8, e9, e10]
        clear e0 e1 e2 e3 e4 e5 e6 e7 e8 e9 e10
        refine wpAny_done (by kernel_rfl) ?_ _
        obtain ⟨w3, hw3⟩ : ∃ W, W = w' := ⟨_, rfl⟩
        rw [← hw3] at hS ⊢
        clear hw3
        obtain ⟨k3, hB3⟩ := hS
        clear q0 q1 k2 hB2
        obtain ⟨q0, q1⟩ := k3.two
        go_wp2_with fail
        refine (isVersor_any P A n c sq X cx xs _ hp hp2 hn (ha.below hB3) hs (hx.below hB3) hxs hcx).mono ?_
        rintro e w4 ⟨rfl, hb4⟩
        rw [HV.out]
        clear q0 q1
        have hB4 := hB3.trans (hb4.mono hB3.size)
        have k4 := k3.below hb4 k3.lt
        obtain ⟨q0, q1⟩ := k4.two
        go_wp2
        go_ret2
        exact no_list (unitR_v HCR.out (by rw [HSL.out]; exact HV.out)) hB4
      · obtain ⟨hrt1, hrt2⟩ := rootF_small hp HRT.out (versB_norm hp hv)
        have HV := Lib.hid hv
        clear hv
        go_enter Tryz.func55, Tryz.ntmps55
        go_wp2_with fail
        refine (hreg).mono ?_
        rintro e w2 ⟨rfl, hb2⟩
        have hB2 := hB1.trans (hb2.mono hB1.size)
        have k2 := k1.below hb2 k1.lt
        obtain ⟨q0, q1⟩ := k2.two
        clear k1 hB1 hb2
        clear hn
        have hn := hn6
        have hs := HS.out
        have hxs := HXS.out
        have HPW : pw n ≤ 65536 := Nat.le_trans (pw_le (show n ≤ 10 by omega)) (by decide)
        have HPW64 : pw n ≤ 64 := pw_le hn
        go_wp2
        refine wp_obs 11 [[], [0], [], [], [2, 3], [0, 1, 2, 3, 4], [0, 1, 2, 3, 4, 5], [0, 1, 2, 3, 4, 5, 6], [0, 1, 2, 3, 4, 5, 6], [0, 1, 2, 3, 4, 5, 6, 7], [0, 1, 2, 3, 4, 5, 6, 8]] [VIs (.agg #[.int .i64 P, .slice A n c]), VIs (.int .i64 P), VIs (.agg #[.int .i64 P, .slice A n c]), VIs (.slice X (pw n) cx), VIs (.int .i64 (nrmL P sq xs)), VIs (.tuple #[.int .i64 rt, .bool true]), VIs (.tuple #[.int .i64 rt, .bool true]), VIs (.int .i64 rt), VIs (.bool true), VIs (.int .i64 rt), VIs (.bool true)] (fun w' => Blk w' w.heap.size 26 #[.int .i64 P, .slice A n c] ∧ Below w.heap.size w w') (by kernel_rfl) (by kernel_rfl) (fun _ _ h hb => ⟨h.1.below hb h.1.lt, h.2.trans (hb.mono h.2.size)⟩) (⟨k2.drew, hB2.drew⟩) (fun x => ?_)
        refine obs_step (Eq.trans (by simp only [List.getElem?_toArray, List.getElem?_cons_zero]; exact rfl) rfl) rfl (fun w' hS hV K hK => ?_) ?_
        · obtain ⟨q0, q1⟩ := hS.1.two
          go_simp
          exact hK.out _ _ _ rfl rfl rfl (Below.refl _ _)
        simp only [List.setIfInBounds_toArray, List.set_cons_zero, List.set_cons_succ]
        refine obs_step (Eq.trans (by simp only [List.getElem?_toArray, List.getElem?_cons_succ, List.getElem?_cons_zero]; exact rfl) rfl) rfl (fun w' hS hV K hK => ?_) ?_
        · simp only [List.mem_cons, List.not_mem_nil, or_false, forall_eq, List.getD_cons_succ, List.getD_cons_zero, VIs, VAny] at hV
          obtain e0 := hV
          obtain ⟨q0, q1⟩ := hS.1.two
          go_simp
          refine (field_any _ _ _ _ _).mono ?_
          rintro e w1 ⟨rfl, hb⟩
          exact hK.out _ _ _ rfl rfl rfl hb
        simp only [List.setIfInBounds_toArray, List.set_cons_zero, List.set_cons_succ]
        refine obs_step (Eq.trans (by simp only [List.getElem?_toArray, List.getElem?_cons_succ, List.getElem?_cons_zero]; exact rfl) rfl) rfl (fun w' hS hV K hK => ?_) ?_
        · obtain ⟨q0, q1⟩ := hS.1.two
          go_simp
          exact hK.out _ _ _ rfl rfl rfl (Below.refl _ _)
        simp only [List.setIfInBounds_toArray, List.set_cons_zero, List.set_cons_succ]
        refine obs_step (Eq.trans (by simp only [List.getElem?_toArray, List.getElem?_cons_succ, List.getElem?_cons_zero]; exact rfl) rfl) rfl (fun w' hS hV K hK => ?_) ?_
        · obtain ⟨q0, q1⟩ := hS.1.two
          go_simp
          exact hK.out _ _ _ rfl rfl rfl (Below.refl _ _)
        simp only [List.setIfInBounds_toArray, List.set_cons_zero, List.set_cons_succ]
        refine obs_step (Eq.trans (by simp only [List.getElem?_toArray, List.getElem?_cons_succ, List.getElem?_cons_zero]; exact rfl) rfl) rfl (fun w' hS hV K hK => ?_) ?_
        · simp only [List.mem_cons, List.not_mem_nil, or_false, forall_eq_or_imp, forall_eq, List.getD_cons_succ, List.getD_cons_zero, VIs, VAny] at hV
          obtain ⟨e2, e3⟩ := hV
          obtain ⟨q0, q1⟩ := hS.1.two
          go_simp
          refine (spinorNorm_any P A n c sq _ _ xs _ hp hp2 hn (ha.below hS.2) hs (hx.below hS.2) hxs hcx).mono ?_
          rintro e w1 ⟨rfl, hb⟩
          exact hK.out _ _ _ rfl rfl rfl hb
        simp only [List.setIfInBounds_toArray, List.set_cons_zero, List.set_cons_succ]
        refine obs_step (Eq.trans (by simp only [List.getElem?_toArray, List.getElem?_cons_succ, List.getElem?_cons_zero]; exact rfl) rfl) rfl (fun w' hS hV K hK => ?_) ?_
        · simp only [List.mem_cons, List.not_mem_nil, or_false, forall_eq_or_imp, forall_eq, List.getD_cons_succ, List.getD_cons_zero, VIs, VAny] at hV
          obtain ⟨e0, e1, e2, e3, e4⟩ := hV
          obtain ⟨q0, q1⟩ := hS.1.two
          go_simp
          refine (root_some _ hp hp2 HRT.out).mono ?_
          rintro e w1 ⟨rfl, rfl⟩
          exact hK.out _ _ _ rfl rfl rfl (Below.refl _ _)
        simp only [List.setIfInBounds_toArray, List.set_cons_zero, List.set_cons_succ]
        refine obs_step (Eq.trans (by simp only [List.getElem?_toArray, List.getElem?_cons_succ, List.getElem?_cons_zero]; exact rfl) rfl) rfl (fun w' hS hV K hK => ?_) ?_
        · simp only [List.mem_cons, List.not_mem_nil, or_false, forall_eq_or_imp, forall_eq, List.getD_cons_succ, List.getD_cons_zero, VIs, VAny] at hV
          obtain ⟨e0, e1, e2, e3, e4, e5⟩ := hV
          obtain ⟨q0, q1⟩ := hS.1.two
          go_simp
          exact hK.out _ _ _ rfl rfl rfl (Below.refl _ _)
        simp only [List.setIfInBounds_toArray, List.set_cons_zero, List.set_cons_succ]
        refine obs_step (Eq.trans (by simp only [List.getElem?_toArray, List.getElem?_cons_succ, List.getElem?_cons_zero]; exact rfl) rfl) rfl (fun w' hS hV K hK => ?_) ?_
        · simp only [List.mem_cons, List.not_mem_nil, or_false, forall_eq_or_imp, forall_eq, List.getD_cons_succ, List.getD_cons_zero, VIs, VAny] at hV
          obtain ⟨e0, e1, e2, e3, e4, e5, e6⟩ := hV
          obtain ⟨q0, q1⟩ := hS.1.two
          go_simp
          exact hK.out _ _ _ rfl rfl rfl (Below.refl _ _)
        simp only [List.setIfInBounds_toArray, List.set_cons_zero, List.set_cons_succ]
        refine obs_step (Eq.trans (by simp only [List.getElem?_toArray, List.getElem?_cons_succ, List.getElem?_cons_zero]; exact rfl) rfl) rfl (fun w' hS hV K hK => ?_) ?_
        · simp only [List.mem_cons, List.not_mem_nil, or_false, forall_eq_or_imp, forall_eq, List.getD_cons_succ, List.getD_cons_zero, VIs, VAny] at hV
          obtain ⟨e0, e1, e2, e3, e4, e5, e6⟩ := hV
          obtain ⟨q0, q1⟩ := hS.1.two
          go_simp
          exact hK.out _ _ _ rfl rfl rfl (Below.refl _ _)
        simp only [List.setIfInBounds_toArray, List.set_cons_zero, List.set_cons_succ]
        refine obs_step (Eq.trans (by simp only [List.getElem?_toArray, List.getElem?_cons_succ, List.getElem?_cons_zero]; exact rfl) rfl) rfl (fun w' hS hV K hK => ?_) ?_
        · simp only [List.mem_cons, List.not_mem_nil, or_false, forall_eq_or_imp, forall_eq, List.getD_cons_succ, List.getD_cons_zero, VIs, VAny] at hV
          obtain ⟨e0, e1, e2, e3, e4, e5, e6, e7⟩ := hV
          obtain ⟨q0, q1⟩ := hS.1.two
          go_simp
          exact hK.out _ _ _ rfl rfl rfl (Below.refl _ _)
        simp only [List.setIfInBounds_toArray, List.set_cons_zero, List.set_cons_succ]
        refine obs_step (Eq.trans (by simp only [List.getElem?_toArray, List.getElem?_cons_succ, List.getElem?_cons_zero]; exact rfl) rfl) rfl (fun w' hS hV K hK => ?_) ?_
        · simp only [List.mem_cons, List.not_mem_nil, or_false, forall_eq_or_imp, forall_eq, List.getD_cons_succ, List.getD_cons_zero, VIs, VAny] at hV
          obtain ⟨e0, e1, e2, e3, e4, e5, e6, e8⟩ := hV
          obtain ⟨q0, q1⟩ := hS.1.two
          go_simp
          exact hK.out _ _ _ rfl rfl rfl (Below.refl _ _)
        simp only [List.setIfInBounds_toArray, List.set_cons_zero, List.set_cons_succ]
        refine fun w' hS hV => ?_
        have hV := fun i hi => hV i (List.mem_range.1 hi)
        simp only [List.range, List.range.loop, List.mem_cons, List.not_mem_nil, or_false, forall_eq_or_imp, forall_eq, List.getD_cons_succ, List.getD_cons_zero, VIs, VAny] at hV
        obtain ⟨e0, e1, e2, e3, e4, e5, e6, e7, e8, e9, e10⟩ := hV
        simp only [e0, e1, e2, e3, e4, e5, e6, e7, e8, e9, e10]
        clear e0 e1 e2 e3 e4 e5 e6 e7 e8 e9 e10
        refine wpAny_done (by kernel_rfl) ?_ _
        obtain ⟨w3, hw3⟩ : ∃ W, W = w' := ⟨_, rfl⟩
        rw [← hw3] at hS ⊢
        clear hw3
        obtain ⟨k3, hB3⟩ := hS
        clear q0 q1 k2 hB2
        obtain ⟨q0, q1⟩ := k3.two
        go_wp2_with fail
        refine (isVersor_any P A n c sq X cx xs _ hp hp2 hn (ha.below hB3) hs (hx.below hB3) hxs hcx).mono ?_
        rintro e w4 ⟨rfl, hb4⟩
        rw [HV.out]
        clear q0 q1
        have hB4 := hB3.trans (hb4.mono hB3.size)
        have k4 := k3.below hb4 k3.lt
        obtain ⟨q0, q1⟩ := k4.two
        go_wp2
        refine wp_obs 10 [[], [0], [], [], [3], [], [3, 4, 5], [0, 1, 2, 3, 4, 5, 6], [0, 1, 2, 3, 4, 5, 6, 7], []] [VIs (.agg #[.int .i64 P, .slice A n c]), VIs (.int .i64 P), VIs (.slice X (pw n) cx), VIs (.agg #[.int .i64 P, .slice A n c]), VIs (.int .i64 P), VIs (.int .i64 rt), VIs (.int .i64 (invF P rt)), VSl w (pw n) (scaleL P xs (invF P rt)), VSl w (pw n) (scaleL P xs (invF P rt)), VIs (.int .i64 0)] (fun w' => Blk w' w.heap.size 26 #[.int .i64 P, .slice A n c] ∧ Below w.heap.size w w') (by kernel_rfl) (by kernel_rfl) (fun _ _ h hb => ⟨h.1.below hb h.1.lt, h.2.trans (hb.mono h.2.size)⟩) (⟨k4.drew, hB4.drew⟩) (fun x => ?_)
        refine obs_step (Eq.trans (by simp only [List.getElem?_toArray, List.getElem?_cons_zero]; exact rfl) rfl) rfl (fun w' hS hV K hK => ?_) ?_
        · obtain ⟨q0, q1⟩ := hS.1.two
          go_simp
          exact hK.out _ _ _ rfl rfl rfl (Below.refl _ _)
        simp only [List.setIfInBounds_toArray, List.set_cons_zero, List.set_cons_succ]
        refine obs_step (Eq.trans (by simp only [List.getElem?_toArray, List.getElem?_cons_succ, List.getElem?_cons_zero]; exact rfl) rfl) rfl (fun w' hS hV K hK => ?_) ?_
        · simp only [List.mem_cons, List.not_mem_nil, or_false, forall_eq, List.getD_cons_succ, List.getD_cons_zero, VIs, VSl, VAny] at hV
          obtain e0 := hV
          obtain ⟨q0, q1⟩ := hS.1.two
          go_simp
          refine (field_any _ _ _ _ _).mono ?_
          rintro e w1 ⟨rfl, hb⟩
          exact hK.out _ _ _ rfl rfl rfl hb
        simp only [List.setIfInBounds_toArray, List.set_cons_zero, List.set_cons_succ]
        refine obs_step (Eq.trans (by simp only [List.getElem?_toArray, List.getElem?_cons_succ, List.getElem?_cons_zero]; exact rfl) rfl) rfl (fun w' hS hV K hK => ?_) ?_
        · obtain ⟨q0, q1⟩ := hS.1.two
          go_simp
          exact hK.out _ _ _ rfl rfl rfl (Below.refl _ _)
        simp only [List.setIfInBounds_toArray, List.set_cons_zero, List.set_cons_succ]
        refine obs_step (Eq.trans (by simp only [List.getElem?_toArray, List.getElem?_cons_succ, List.getElem?_cons_zero]; exact rfl) rfl) rfl (fun w' hS hV K hK => ?_) ?_
        · obtain ⟨q0, q1⟩ := hS.1.two
          go_simp
          exact hK.out _ _ _ rfl rfl rfl (Below.refl _ _)
        simp only [List.setIfInBounds_toArray, List.set_cons_zero, List.set_cons_succ]
        refine obs_step (Eq.trans (by simp only [List.getElem?_toArray, List.getElem?_cons_succ, List.getElem?_cons_zero]; exact rfl) rfl) rfl (fun w' hS hV K hK => ?_) ?_
        · simp only [List.mem_cons, List.not_mem_nil, or_false, forall_eq, List.getD_cons_succ, List.getD_cons_zero, VIs, VSl, VAny] at hV
          obtain e3 := hV
          obtain ⟨q0, q1⟩ := hS.1.two
          go_simp
          refine (field_any _ _ _ _ _).mono ?_
          rintro e w1 ⟨rfl, hb⟩
          exact hK.out _ _ _ rfl rfl rfl hb
        simp only [List.setIfInBounds_toArray, List.set_cons_zero, List.set_cons_succ]
        refine obs_step (Eq.trans (by simp only [List.getElem?_toArray, List.getElem?_cons_succ, List.getElem?_cons_zero]; exact rfl) rfl) rfl (fun w' hS hV K hK => ?_) ?_
        · obtain ⟨q0, q1⟩ := hS.1.two
          go_simp
          exact hK.out _ _ _ rfl rfl rfl (Below.refl _ _)
        simp only [List.setIfInBounds_toArray, List.set_cons_zero, List.set_cons_succ]
        refine obs_step (Eq.trans (by simp only [List.getElem?_toArray, List.getElem?_cons_succ, List.getElem?_cons_zero]; exact rfl) rfl) rfl (fun w' hS hV K hK => ?_) ?_
        · simp only [List.mem_cons, List.not_mem_nil, or_false, forall_eq_or_imp, forall_eq, List.getD_cons_succ, List.getD_cons_zero, VIs, VSl, VAny] at hV
          obtain ⟨e3, e4, e5⟩ := hV
          obtain ⟨q0, q1⟩ := hS.1.two
          go_simp
          refine (inv_any P rt _ hp hp2 (show 0 ≤ rt ∧ rt < P from ⟨by omega, by omega⟩).1 (show 0 ≤ rt ∧ rt < P from ⟨by omega, by omega⟩).2).mono ?_
          rintro e w1 ⟨rfl, rfl⟩
          exact hK.out _ _ _ rfl rfl rfl (Below.refl _ _)
        simp only [List.setIfInBounds_toArray, List.set_cons_zero, List.set_cons_succ]
        refine obs_step (Eq.trans (by simp only [List.getElem?_toArray, List.getElem?_cons_succ, List.getElem?_cons_zero]; exact rfl) rfl) rfl (fun w' hS hV K hK => ?_) ?_
        · simp only [List.mem_cons, List.not_mem_nil, or_false, forall_eq_or_imp, forall_eq, List.getD_cons_succ, List.getD_cons_zero, VIs, VSl, VAny] at hV
          obtain ⟨e0, e1, e2, e3, e4, e5, e6⟩ := hV
          obtain ⟨q0, q1⟩ := hS.1.two
          go_simp
          refine (scaled_any P _ (pw n) _ (invF P rt) xs _ hp hp2 HPW (hx.below hS.2) hxs (by have := (invF_small hp rt); omega) (by have := (invF_small hp rt); omega)).mono ?_
          rintro e w1 ⟨A2, c2, rfl, hM⟩
          exact hK.out _ _ _ rfl rfl ⟨_, _, rfl, hM.after hS.2⟩ hM.b
        simp only [List.setIfInBounds_toArray, List.set_cons_zero, List.set_cons_succ]
        refine obs_step (Eq.trans (by simp only [List.getElem?_toArray, List.getElem?_cons_succ, List.getElem?_cons_zero]; exact rfl) rfl) rfl (fun w' hS hV K hK => ?_) ?_
        · simp only [List.mem_cons, List.not_mem_nil, or_false, forall_eq_or_imp, forall_eq, List.getD_cons_succ, List.getD_cons_zero, VIs, VSl, VAny] at hV
          obtain ⟨e0, e1, e2, e3, e4, e5, e6, ⟨A7, c7, e7, h7⟩⟩ := hV
          obtain ⟨q0, q1⟩ := hS.1.two
          go_simp
          exact hK.out _ _ _ rfl rfl ⟨_, _, rfl, h7⟩ (Below.refl _ _)
        simp only [List.setIfInBounds_toArray, List.set_cons_zero, List.set_cons_succ]
        refine obs_step (Eq.trans (by simp only [List.getElem?_toArray, List.getElem?_cons_succ, List.getElem?_cons_zero]; exact rfl) rfl) rfl (fun w' hS hV K hK => ?_) ?_
        · obtain ⟨q0, q1⟩ := hS.1.two
          go_simp
          exact hK.out _ _ _ rfl rfl rfl (Below.refl _ _)
        simp only [List.setIfInBounds_toArray, List.set_cons_zero, List.set_cons_succ]
        refine fun w' hS hV => ?_
        have hV := fun i hi => hV i (List.mem_range.1 hi)
        simp only [List.range, List.range.loop, List.mem_cons, List.not_mem_nil, or_false, forall_eq_or_imp, forall_eq, List.getD_cons_succ, List.getD_cons_zero, VIs, VSl, VAny] at hV
        obtain ⟨e0, e1, e2, e3, e4, e5, e6, ⟨A7, c7, e7, h7⟩, ⟨A8, c8, e8, h8⟩, e9⟩ := hV
        simp only [e0, e1, e2, e3, e4, e5, e6, e7, e8, e9]
        clear e0 e1 e2 e3 e4 e5 e6 e7 e8 e9
        refine wpAny_done (by kernel_rfl) ?_ _
        go_wp2
        go_ret2
        exact a_list (unitR_some (codeVr_0 HCR.out (by rw [HSL.out]; exact HV.out)) HRT.out) h8
  · obtain ⟨r, hr⟩ : ∃ r, r = codeR P sq [xs] := ⟨_, rfl⟩
    have HR := Lib.hid hr
    have HR0 := Lib.hid hr0
    have b0 : (r != 0) = true := code_ne (by rw [hr]; exact hr0)
    clear hr hr0
    go_enter Tryz.func55, Tryz.ntmps55
    go_wp2_with fail
    refine (hreg).mono ?_
    rintro e w2 ⟨rfl, hb2⟩
    rw [← HR.out]
    have hB2 := hB1.trans (hb2.mono hB1.size)
    have k2 := k1.below hb2 k1.lt
    obtain ⟨q0, q1⟩ := k2.two
    go_wp2
    go_ret2
    exact no_list (by rw [unitR_ne (by rw [codeVr_ne HR0.out]; exact HR0.out), codeVr_ne HR0.out, HR.out]) hB2
end Go.Proofs.YtggigolkncckoaaGreat
namespace Go.Proofs.YtggigolkncckoaaGreat
section
variable {P : Int} {sq xs ys : List Int}
end
theorem codeM_mk {P : Int} {sq : List Int} {ms : List (List Int)} (h1 : isSp P sq = true) (h : ∀ ys ∈ ms, ys.length = pw sq.length ∧ NumsL P ys) : codeM P sq ms = 0 := by
  unfold codeM
  rw [if_pos h1, if_neg]
  intro hh
  obtain ⟨ys, hy, e⟩ := List.any_eq_true.1 hh
  obtain ⟨h2, h3⟩ := h ys hy
  have h4 : isMu P sq ys = true := by
    unfold isMu nums
    rw [h2, Bool.and_eq_true]
    refine ⟨by simp, List.all_eq_true.2 fun x hx => ?_⟩
    have := h3 x hx
    simp [inR]
    omega
  rw [h4] at e
  simp at e
end Go.Proofs.YtggigolkncckoaaGreat
namespace Go.Proofs.YtggigolkncckoaaGreat
section
variable {p : Int} {sq : List Int}
theorem cg_wit {p a b : Int} : a % p = b % p ↔ ∃ k, a = b + p * k := by
  constructor
  · intro h
    have h1 := Int.emod_add_mul_ediv a p
    have h2 := Int.emod_add_mul_ediv b p
    exact ⟨a / p - b / p, by grind⟩
  · rintro ⟨k, rfl⟩
    rw [Int.add_mul_emod_self_left]
theorem codeVr_mk {x : List Int} (hsp : isSp p sq = true) (hr : regB sq = true) (hx : x.length = pw sq.length) (hxn : NumsL p x) (hv : versB p sq sq.length x = true) : codeM p sq [x] = 0 ∧ codeR p sq [x] = 0 ∧ codeVr p sq x = 0 := by
  have h1 : codeM p sq [x] = 0 := codeM_mk hsp (fun ys hy => by rw [List.mem_singleton.1 hy]; exact ⟨hx, hxn⟩)
  have h2 : codeR p sq [x] = 0 := by unfold codeR; rw [if_pos h1, hr]; rfl
  exact ⟨h1, h2, by unfold codeVr; rw [if_pos h2, hv]; rfl⟩
end
end Go.Proofs.YtggigolkncckoaaGreat
namespace Go.Proofs.YtggigolkncckoaaGreat
section
variable {p : Int} {sq : List Int}
/-- A multiple of a versor is one. -/
theorem Cl.vers_sm (hP : isP p = true) (hp : 0 < p) (h6 : sq.length ≤ 6) {x : Cl p sq} {k : Int} (hk : k % p ≠ 0) (h : versB p sq sq.length x.l = true) :
    versB p sq sq.length (k * x : Cl p sq).l = true ∧ nrmL p sq (k * x : Cl p sq).l = k * k * nrmL p sq x.l % p := by
  have h3 := (isP_ge hP).1
  obtain ⟨h1, h2, h4, h5⟩ := (Cl.vers_iff hP hp h6 x).1 h
  have hs := nrmL_small (P := p) (by omega) sq x.l
  have e1 : (k * x : Cl p sq) * (k * x).rev = (k * k * nrmL p sq x.l) * Cl.one hp := by
    rw [Cl.rev_sm, Cl.sm_mul, Cl.mul_sm, h2, Cl.sm_sm, Cl.sm_sm]
  have hn : nrmL p sq (k * x : Cl p sq).l = k * k * nrmL p sq x.l % p := by
    rw [Cl.nrm_co, e1, ← Cl.co_mod, Cl.sm_co _ _ (pw_pos _), Int.mul_emod, Cl.one_co hp (pw_pos _), ← Int.mul_emod, if_pos rfl, Int.mul_one]
  refine ⟨(Cl.vers_iff hP hp h6 _).2 ⟨?_, ?_, ?_, fun i hi => ?_⟩, hn⟩
  · rw [hn]
    exact mul_ne hP (mul_ne hP hk hk) (by rw [Int.emod_eq_of_lt hs.1 hs.2]; exact h1)
  · rw [hn, e1]
    exact Cl.sm_cg (Int.emod_emod_of_dvd _ (Int.dvd_refl p)).symm _
  · obtain ⟨c, _, hc, _⟩ := Cl.mix_some h6 x h4
    refine Cl.mix_none hP h6 _ c ?_
    rw [Cl.invo_sm, hc, Cl.sm_sm, Cl.sm_sm, Int.mul_comm]
  · have e2 : (k * x : Cl p sq).invo * Cl.vec hp (unitRow sq.length i) * (k * x).rev = (k * k) * (x.invo * Cl.vec hp (unitRow sq.length i) * x.rev) := by
      rw [Cl.invo_sm, Cl.rev_sm, Cl.sm_mul, Cl.sm_mul, Cl.mul_sm, Cl.sm_sm]
    rw [e2]
    refine (Cl.only_co h6 _ 1).2 fun m hm hne => ?_
    rw [← Cl.co_mod, Cl.sm_co _ _ hm, (Cl.only_co h6 _ 1).1 (h5 i hi) m hm hne, Int.mul_zero, Int.zero_emod]
/-- Two inverses of a number are the same. -/
theorem inv_uniq {p a b c : Int} (hb : a * b % p = 1 % p) (hc : a * c % p = 1 % p) : b % p = c % p := by
  obtain ⟨r, hr⟩ := cg_wit.1 hb
  obtain ⟨s, hs⟩ := cg_wit.1 hc
  exact cg_wit.2 ⟨b * (r - s) - r * (b - c) , by grind⟩
/-- The sandwich of a versor, in the algebra. -/
theorem sand_cl (hp : 0 < p) {x : Cl p sq} {w : List Int} (hwn : NumsL p w) :
    sandL p sq sq.length x.l w = partL sq.length ((invF p (nrmL p sq x.l)) * (x.invo * Cl.vec hp w * x.rev) : Cl p sq).l := by
  unfold sandL vinvL
  rw [← Cl.rev_l, ← Cl.sm_l, ← Cl.invo_l, ← Cl.vec_l hp hwn, ← Cl.mul_l, ← Cl.mul_l, Cl.mul_sm]
theorem inv_one (hP : isP p = true) {a : Int} (h0 : 0 ≤ a ∧ a < p) (ha : a ≠ 0) : a * invF p a % p = 1 % p := by
  have h3 := (isP_ge hP).1
  have := inv_mod hP (a := a) (by rw [Int.emod_eq_of_lt h0.1 h0.2]; exact ha)
  rw [Int.emod_eq_of_lt h0.1 h0.2] at this
  rw [this, Int.emod_eq_of_lt (by omega) (by omega)]
/-- A multiple of a versor has the same sandwich. -/
theorem sand_sm (hP : isP p = true) (hp : 0 < p) (h6 : sq.length ≤ 6) {x : Cl p sq} {k : Int} (hk : k % p ≠ 0) (h : versB p sq sq.length x.l = true) {w : List Int} (hwn : NumsL p w) :
    sandL p sq sq.length (k * x : Cl p sq).l w = sandL p sq sq.length x.l w := by
  have h3 := (isP_ge hP).1
  have hs := nrmL_small (P := p) (by omega) sq x.l
  have h1 := ((Cl.vers_iff hP hp h6 x).1 h).1
  obtain ⟨hv, hn⟩ := Cl.vers_sm hP hp h6 hk h
  have h1' := ((Cl.vers_iff hP hp h6 _).1 hv).1
  have hs' := nrmL_small (P := p) (by omega) sq (k * x : Cl p sq).l
  rw [sand_cl hp hwn, sand_cl hp hwn]
  have e2 : (k * x : Cl p sq).invo * Cl.vec hp w * (k * x).rev = (k * k) * (x.invo * Cl.vec hp w * x.rev) := by
    rw [Cl.invo_sm, Cl.rev_sm, Cl.sm_mul, Cl.sm_mul, Cl.mul_sm, Cl.sm_sm]
  have hi := inv_one hP hs h1
  have hi' := inv_one hP hs' h1'
  rw [e2, Cl.sm_sm]
  congr 2
  refine Cl.sm_cg ?_ _
  refine inv_uniq (a := nrmL p sq x.l) ?_ hi
  obtain ⟨N, hN⟩ : ∃ N, N = nrmL p sq (k * x : Cl p sq).l := ⟨_, rfl⟩
  rw [← hN] at hi' hn ⊢
  obtain ⟨M, hM⟩ : ∃ M, M = nrmL p sq x.l := ⟨_, rfl⟩
  rw [← hM] at hn ⊢
  have hn2 : N % p = k * k * M % p := by rw [hn, cg_self]
  obtain ⟨r, hr⟩ := cg_wit.1 hn2
  obtain ⟨s, hs2⟩ := cg_wit.1 hi'
  exact cg_wit.2 ⟨s - r * invF p N, by grind⟩
/-- A good list of vectors: of the right length, numbers, norms other than 0. -/
def Good (p : Int) (sq : List Int) (L : List (List Int)) : Prop := ∀ v ∈ L, v.length = sq.length ∧ NumsL p v ∧ bil sq v v % p ≠ 0
theorem Good.ne {L : List (List Int)} (h : Good p sq L) : ∀ v ∈ L, bil sq v v % p ≠ 0 := fun v hv => (h v hv).2.2
theorem Good.nums {L : List (List Int)} (h : Good p sq L) : ∀ v ∈ L, NumsL p v := fun v hv => (h v hv).2.1
end
end Go.Proofs.YtggigolkncckoaaGreat
namespace Go.Proofs.YtggigolkncckoaaGreat
section
variable {p : Int} {sq : List Int}
/-- What a versor's sandwich takes in place of a multivector. -/
def Cl.alt (x y : Cl p sq) : Cl p sq := if evenL x.l then y else y.invo
theorem Cl.alt_mul (x y w : Cl p sq) : Cl.alt x (y * w) = Cl.alt x y * Cl.alt x w := by
  unfold Cl.alt
  split
  · rfl
  · exact Cl.invo_mul _ _
theorem vinv_cl (x : Cl p sq) : vinvL p sq x.l = (invF p (nrmL p sq x.l) * x.rev : Cl p sq).l := by
  unfold vinvL
  rw [← Cl.rev_l, ← Cl.sm_l]
theorem sandM_cl (x y : Cl p sq) : sandM p sq x.l y.l = (x * Cl.alt x y * (invF p (nrmL p sq x.l) * x.rev) : Cl p sq).l := by
  unfold sandM
  have h : (if evenL x.l then y.l else invoL p y.l) = (Cl.alt x y).l := by
    unfold Cl.alt
    split
    · rfl
    · rw [Cl.invo_l]
  rw [h, vinv_cl, Cl.mul_l, Cl.mul_l]
theorem Cl.vers_back (hP : isP p = true) (hp : 0 < p) (h6 : sq.length ≤ 6) {x : Cl p sq} (h : versB p sq sq.length x.l = true) : (invF p (nrmL p sq x.l) * x.rev : Cl p sq) * x = Cl.one hp := by
  have h3 := (isP_ge hP).1
  obtain ⟨h1, h2, -, -⟩ := (Cl.vers_iff hP hp h6 x).1 h
  have hs := nrmL_small (P := p) (by omega) sq x.l
  have hi := inv_one hP hs h1
  refine Cl.inv_two hp ?_
  rw [Cl.mul_sm, h2, Cl.sm_sm, Cl.sm_cg (j := 1) (by rw [Int.mul_comm]; exact hi), Cl.one_sm]
theorem sandM_mul (hP : isP p = true) (hp : 0 < p) (h6 : sq.length ≤ 6) {x : Cl p sq} (y w : Cl p sq) (h : versB p sq sq.length x.l = true) :
    sandM p sq x.l (mulL p sq y.l w.l) = mulL p sq (sandM p sq x.l y.l) (sandM p sq x.l w.l) := by
  have hb := Cl.vers_back hP hp h6 h
  rw [← Cl.mul_l, sandM_cl, sandM_cl, sandM_cl, ← Cl.mul_l, Cl.alt_mul]
  obtain ⟨b, hbb⟩ : ∃ b, b = (invF p (nrmL p sq x.l) * x.rev : Cl p sq) := ⟨_, rfl⟩
  rw [← hbb] at hb ⊢
  congr 1
  simp only [Cl.mul_assoc]
  rw [← Cl.mul_assoc b x, hb, Cl.one_mul]
/-- Sandwiches of multivectors keep geometric products. -/
theorem sandM_prod (hP : isP p = true) (h6 : sq.length ≤ 6) {xs ys ws : List Int} (hx : xs.length = pw sq.length) (hxn : NumsL p xs) (hy : ys.length = pw sq.length) (hyn : NumsL p ys) (hw : ws.length = pw sq.length) (hwn : NumsL p ws) (h : versB p sq sq.length xs = true) :
    sandM p sq xs (mulL p sq ys ws) = mulL p sq (sandM p sq xs ys) (sandM p sq xs ws) := by
  have h3 := (isP_ge hP).1
  have hp : 0 < p := by omega
  exact sandM_mul hP hp h6 (x := ⟨xs, hx, hxn, hp⟩) ⟨ys, hy, hyn, hp⟩ ⟨ws, hw, hwn, hp⟩ h
theorem Cl.vers_alt (hP : isP p = true) (hp : 0 < p) (h6 : sq.length ≤ 6) {x : Cl p sq} (h : versB p sq sq.length x.l = true) (v : List Int) : x * Cl.alt x (Cl.vec hp v) = x.invo * Cl.vec hp v := by
  unfold Cl.alt
  have he := evenL_invo hP h6 x.len x.nums
  cases h1 : evenL x.l
  · rw [if_neg (by decide), Cl.vec_invo]
    obtain ⟨c, hc, hin, hev⟩ := Cl.mix_some h6 x ((Cl.vers_iff hP hp h6 x).1 h).2.2.1
    have hc1 : c = 1 := by
      rcases Nat.lt_or_ge c 1 with h0 | h0
      · have := hev.2 (.inl (by omega)); rw [h1] at this; exact absurd this (by decide)
      · omega
    rw [hin, hc1, show sg 1 = -1 from rfl, Cl.mul_sm, Cl.sm_mul]
  · rw [if_pos rfl]
    rw [h1] at he
    have e : x = x.invo := Cl.ext (by rw [Cl.invo_l]; exact of_decide_eq_true he)
    rw [← e]
/-- Vectors are led to vectors, as by the sandwich of vectors. -/
theorem sandM_vec (hP : isP p = true) (h6 : sq.length ≤ 6) {xs v : List Int} (hx : xs.length = pw sq.length) (hxn : NumsL p xs) (hv : NumsL p v) (h : versB p sq sq.length xs = true) :
    sandM p sq xs (vecTo sq.length v sq.length) = vecTo sq.length (sandL p sq sq.length xs v) sq.length := by
  have h3 := (isP_ge hP).1
  have hp : 0 < p := by omega
  obtain ⟨x, rfl⟩ : ∃ x : Cl p sq, x.l = xs := ⟨⟨xs, hx, hxn, hp⟩, rfl⟩
  have ha := Cl.vers_acts hP hp h6 h v
  rw [← Cl.vec_l hp hv, sandM_cl, ← Cl.vec_l hp (sandL_nums (by omega) _ _ _ _), sand_cl hp hv]
  obtain ⟨u, hu⟩ : ∃ u, u = partL sq.length (x.invo * Cl.vec hp v * x.rev : Cl p sq).l := ⟨_, rfl⟩
  have hul : u.length = sq.length := by rw [hu, partL_len]
  rw [← hu] at ha
  rw [Cl.mul_sm, Cl.vers_alt hP hp h6 h v, ha, ← Cl.vec_scale hp hul, Cl.vec_at hp (scaleL_nums (by omega) _ _) (by rw [scaleL_len, hul])]
/-- What is told to be the unit versor. -/
theorem unit_facts (hP : isP p = true) (h6 : sq.length ≤ 6) {xs : List Int} (hx : xs.length = pw sq.length) (hxn : NumsL p xs) (h : versB p sq sq.length xs = true) {r : Int} (hr : rootF p (nrmL p sq xs) p.toNat 0 = some r) :
    versB p sq sq.length (scaleL p xs (invF p r)) = true ∧ nrmL p sq (scaleL p xs (invF p r)) = 1 ∧ ∀ v, NumsL p v → sandL p sq sq.length (scaleL p xs (invF p r)) v = sandL p sq sq.length xs v := by
  have h3 := (isP_ge hP).1
  have hp : 0 < p := by omega
  obtain ⟨x, rfl⟩ : ∃ x : Cl p sq, x.l = xs := ⟨⟨xs, hx, hxn, hp⟩, rfl⟩
  obtain ⟨-, -, hrr⟩ := rootF_spec _ _ _ _ _ hr
  obtain ⟨r1, r2⟩ := rootF_small (by omega) hr (versB_norm (by omega) h)
  have hi := inv_one hP (a := r) ⟨by omega, r2⟩ (by omega)
  obtain ⟨k, hk⟩ : ∃ k, k = invF p r := ⟨_, rfl⟩
  rw [← hk] at hi ⊢
  have hk0 : k % p ≠ 0 := fun e => by
    rw [Int.mul_emod, e, Int.mul_zero, Int.zero_emod, Int.emod_eq_of_lt (by omega) (by omega)] at hi
    omega
  obtain ⟨hv, hn⟩ := Cl.vers_sm hP hp h6 hk0 h
  rw [← Cl.sm_l]
  refine ⟨hv, ?_, fun v hvn => sand_sm hP hp h6 hk0 h hvn⟩
  rw [hn, ← hrr]
  have : k * k * (r * r % p) % p = 1 % p := by
    obtain ⟨a, ha⟩ := cg_wit.1 (cg_self p (r * r))
    obtain ⟨b, hb⟩ := cg_wit.1 hi
    exact cg_wit.2 ⟨k * k * a + (r * k + 1) * b, by grind⟩
  rw [this, Int.emod_eq_of_lt (by omega) (by omega)]
end
end Go.Proofs.YtggigolkncckoaaGreat
namespace Go.Proofs.YtggigolkncckoaaGreat
open Go.RowKit
set_option maxHeartbeats 1600000 in
theorem SpinorNormOf_ok (P : Int) (A : Option Addr) (n c : Nat) (sq : List Int) (X : Option Addr) (cx : Nat) (xs : List Int) (w : World) (hsp : isSp P sq = true) (hreg : regB sq = true) (ha : Rd w A n (ints sq)) (hx : Rd w X (pw n) (ints xs)) (hcx : pw n ≤ cx) (hv : NumsL P xs) :
    Calls Tryz.prog 42 #[.agg #[.int .i64 P, .slice A n c], .slice X (pw n) cx] w fun e w' => e = .returned (.tuple #[.int .i64 (nrmL P sq xs), .int .i64 0]) ∧ Below w.heap.size w w' := by
  have hB0 : Below w.heap.size w (w.alloc (.cells #[.int .i64 P, .slice A n c] 26)) := (Below.refl _ _).alloc (Nat.le_refl _) _
  have k0 : Blk (w.alloc (.cells #[.int .i64 P, .slice A n c] 26)) w.heap.size 26 #[.int .i64 P, .slice A n c] := Blk.new _ _ _
  have hsl := ha.lenI
  obtain ⟨HP, hd1, hd2, hnum⟩ := isSp_dim hsp
  obtain ⟨hp3, hp2⟩ := isP_ge HP
  rw [hsl] at hd1 hd2
  have hpw : pw n ≤ 64 := pw_le hd2
  have hB1 : Below w.heap.size w ((w.alloc (.cells #[.int .i64 P, .slice A n c] 26)).alloc (.cells #[.slice X (pw n) cx] 24)) := hB0.alloc (by simp) _
  have k1 : Blk ((w.alloc (.cells #[.int .i64 P, .slice A n c] 26)).alloc (.cells #[.slice X (pw n) cx] 24)) w.heap.size 26 #[.int .i64 P, .slice A n c] := k0.alloc _
  have hM : codeM P sq [xs] = 0 := by
    unfold codeM
    rw [hsp, if_pos rfl, if_neg]
    intro hh
    obtain ⟨ys, hy, e⟩ := List.any_eq_true.1 hh
    rw [List.mem_singleton.1 hy] at e
    have : isMu P sq xs = true := by
      unfold isMu nums
      rw [hx.lenI, hsl, Bool.and_eq_true]
      exact ⟨by simp, List.all_eq_true.2 fun x hx' => by have := hv x hx'; simp [inR]; omega⟩
    rw [this] at e
    cases e
  have hck := checkVersors_any P A (some ⟨w.heap.size + 1, 0, none⟩) none n c 1 1 0 0 sq [xs] [] ((w.alloc (.cells #[.int .i64 P, .slice A n c] 26)).alloc (.cells #[.slice X (pw n) cx] 24)) (by omega) (by omega) (by omega) (ha.below hB1) (rdII_one' (Blk.newAt3 (by simp)) (hx.below hB1) hcx) (all_one (by rw [hx.lenI]; omega)) ⟨[], Rd.nil _ _, rfl, fun k h => absurd h (by simp)⟩ (by simp)
  have hz : codeVs P sq [xs] [] = 0 := by
    unfold codeVs
    rw [if_pos hM, if_pos (codeV_mk hsp (by simp)), hreg]; rfl
  rw [hz] at hck
  have HN := Lib.hid (nums_numsL hnum)
  have HVN := Lib.hid hv
  obtain ⟨q0, q1⟩ := k1.two
  clear hsl hnum hv hsp k0 hB0 hM hz
  go_enter Tryz.func42, Tryz.ntmps42
  go_wp2_with fail
  refine hck.mono ?_
  rintro e w2 ⟨rfl, hb2⟩
  have hB2 := hB1.trans (hb2.mono hB1.size)
  have k2 := k1.below hb2 k1.lt
  clear q0 q1 hck
  obtain ⟨q0, q1⟩ := k2.two
  go_wp2_with fail
  refine (spinorNorm_any P A n c sq X cx xs w2 (by omega) hp2 hd2 (ha.below hB2) HN.out (hx.below hB2) HVN.out hcx).mono ?_
  rintro e w3 ⟨rfl, hb3⟩
  go_wp2
  go_ret2
  exact ⟨rfl, hB2.trans (hb3.mono hB2.size)⟩
end Go.Proofs.YtggigolkncckoaaGreat
namespace Go.Proofs.YtggigolkncckoaaGreat
open Go.RowKit
section
variable {P : Program} {ops : Array Oper} {Q : Exit → Act → World → Prop}
/-- Those whose values are good still when operation j is done (C: what each uses up). -/
def availR (R C : List (List Nat)) (m j : Nat) : List Nat := (R.getD j []).filter fun i => (List.range m).all fun k => !((C.getD k []).contains i) || k == j || (R.getD k []).contains j
/-- .. and at the end of the first m. -/
def endR (C : List (List Nat)) (m : Nat) : List Nat := (List.range m).filter fun i => (List.range m).all fun k => !((C.getD k []).contains i)
/-- What operation j may do to the world: add to it, or, where C has something at j, what Rel allows. -/
def StepR (C : List (List Nat)) (Rel : World → World → Prop) (j : Nat) (w w' : World) : Prop := if (C.getD j []).isEmpty then Below w.heap.size w w' else Rel w w'
theorem StepR.plain {C : List (List Nat)} {Rel : World → World → Prop} {j : Nat} {w w' : World} (h : (C.getD j []).isEmpty = true) (hb : Below w.heap.size w w') : StepR C Rel j w w' := by unfold StepR; rw [h]; exact hb
theorem StepR.rel {C : List (List Nat)} {Rel : World → World → Prop} {j : Nat} {w w' : World} (h : (C.getD j []).isEmpty = false) (hb : Rel w w') : StepR C Rel j w w' := by unfold StepR; rw [h]; exact hb
theorem StepR.either {C : List (List Nat)} {Rel : World → World → Prop} {j : Nat} {w w' : World} {q : Prop} (h : StepR C Rel j w w') (h1 : Below w.heap.size w w' → q) (h2 : Rel w w' → q) : q := by
  unfold StepR at h
  split at h
  · exact h1 h
  · exact h2 h
theorem not_containsR {L : List Nat} {i : Nat} : (!(L.contains i)) = true ↔ i ∉ L := by
  rw [Bool.not_eq_true', ← Bool.not_eq_true, List.contains_iff_mem]
theorem availR_spec {R C : List (List Nat)} {m j i : Nat} : i ∈ availR R C m j ↔ i ∈ R.getD j [] ∧ ∀ k, k < m → i ∈ C.getD k [] → k = j ∨ j ∈ R.getD k [] := by
  unfold availR
  rw [List.mem_filter, List.all_eq_true]
  refine and_congr_right fun _ => ⟨fun h k hk hi => ?_, fun h k hk => ?_⟩
  · have h1 := h k (List.mem_range.2 hk)
    rw [Bool.or_eq_true, Bool.or_eq_true, not_containsR, beq_iff_eq, List.contains_iff_mem] at h1
    rcases h1 with (h1 | h1) | h1
    · exact absurd hi h1
    · exact .inl h1
    · exact .inr h1
  · rw [Bool.or_eq_true, Bool.or_eq_true, not_containsR, beq_iff_eq, List.contains_iff_mem]
    by_cases hi : i ∈ C.getD k []
    · rcases h k (List.mem_range.1 hk) hi with h1 | h1
      · exact .inl (.inr h1)
      · exact .inr h1
    · exact .inl (.inl hi)
theorem endR_spec {C : List (List Nat)} {m i : Nat} : i ∈ endR C m ↔ i < m ∧ ∀ k, k < m → i ∉ C.getD k [] := by
  unfold endR
  rw [List.mem_filter, List.all_eq_true, List.mem_range]
  exact and_congr_right fun _ => ⟨fun h k hk => not_containsR.1 (h k (List.mem_range.2 hk)), fun h k hk => not_containsR.2 (h k (List.mem_range.1 hk))⟩
/-- What is to be shown of operation j. -/
def ObR (P : Program) (ops : Array Oper) (S : World → Prop) (R C : List (List Nat)) (Rel : World → World → Prop) (m : Nat) (V : (Nat → Value) → List VP) (x : Nat → Value) (a0 : Act) (j : Nat) : Prop :=
  ∀ w, S w → (∀ i ∈ availR R C m j, ((V x).getD i VAny).p (x i) w) →
    wpOp P ops NoWay j (fun a' w' => ∃ v, (∀ d, dstOf ops j = some d → a'.tmps[d]? = some v) ∧ a'.defers = a0.defers ∧ ((V x).getD j VAny).p v w' ∧ StepR C Rel j w w') (putS ops x a0 j) w
theorem tasks_goR {m : Nat} {Rel : World → World → Prop} {R C : List (List Nat)} {V : (Nat → Value) → List VP} {S : World → Prop} {a0 : Act} (hok : tasksOk ops m a0.tmps.size R = true)
    (hdep : ∀ x x' j, (∀ i ∈ R.getD j [], x i = x' i) → (V x).getD j VAny = (V x').getD j VAny) (hweak : ∀ i, i < m → (C.getD i []).isEmpty = false → ∀ k, k < m → k ≠ i → i ∉ R.getD k [] → k ∉ C.getD i [] → ∀ x v w w', ((V x).getD k VAny).p v w → Rel w w' → ((V x).getD k VAny).p v w') (hSt : ∀ j w w', S w → StepR C Rel j w w' → S w') (hob : ∀ x j, j < m → ObR P ops S R C Rel m V x a0 j)
    (hend : ∀ x w', S w' → (∀ i ∈ endR C m, ((V x).getD i VAny).p (x i) w') → wpAny P .any ops Q (ops.size - m) (listedTo ops.size m) (putS ops x a0 m) w') :
    ∀ (c : Nat) (U : List Nat) (listed : Array Bool) (w : World) (x : Nat → Value), U.length = c → U.Nodup → (∀ i, i ∈ U ↔ i < m ∧ listed.getD i false = false) → listed.size = ops.size →
      (∀ i, m ≤ i → i < ops.size → listed.getD i false = false) → (∀ (j : Nat) (o : Oper), ops[j]? = some o → listed.getD j false = true → ∀ e ∈ o.after, Region.binds .any e = true → listed.getD e.on false = true) →
      S w → (∀ i, i < m → listed.getD i false = true → (∀ j, j < m → i ∈ C.getD j [] → listed.getD j false = false) → ((V x).getD i VAny).p (x i) w) → wpAny P .any ops Q (ops.size - m + c) listed (putD ops (fun i => listed.getD i false) x a0 m) w := by
  obtain ⟨hmn, hspec, htail⟩ := tasks_spec hok
  have hsel : Region.noSelect ops = true := by unfold tasksOk at hok; simp only [Bool.and_eq_true] at hok; exact hok.1.1
  intro c
  induction c with
  | zero =>
    intro U listed w x hU hnd hmem hsz hun hcl hS hV
    obtain rfl : U = [] := List.eq_nil_of_length_eq_zero hU
    have hall : ∀ i, i < m → listed.getD i false = true := fun i hi => by
      cases h : listed.getD i false
      · exact absurd ((hmem i).2 ⟨hi, h⟩) (by simp)
      · rfl
    have hl : listed = listedTo ops.size m := by
      apply Array.ext
      · simp [listedTo, hsz]
      · intro i h1 h2
        have e : listed.getD i false = listed[i] := by simp [Array.getD, h1]
        by_cases hi : i < m
        · have := hall i hi
          rw [e] at this
          simp [listedTo, this, hi]
        · have := hun i (by omega) (by omega)
          rw [e] at this
          simp [listedTo, this, hi]
    rw [Nat.add_zero, putD_congr (ops := ops) _ (fun _ => true) x x a0 m (fun i hi => ⟨hall i hi, fun _ => rfl⟩), hl]
    exact hend x w hS (fun i hi => hV i (endR_spec.1 hi).1 (hall i (endR_spec.1 hi).1) (fun j hj hc => absurd hc ((endR_spec.1 hi).2 j hj)))
  | succ c ih =>
    intro U listed w x hU hnd hmem hsz hun hcl hS hV
    have hne : U ≠ [] := fun e => by rw [e] at hU; simp at hU
    show (_ → _) ∧ _
    refine ⟨fun hr => ?_, fun i hi => ?_⟩
    · exfalso
      obtain ⟨i, hiU, hmin⟩ := min_mem U hne
      obtain ⟨him, hil⟩ := (hmem i).1 hiU
      have hlt : i < ops.size := by omega
      have : i ∈ Region.ready .any ops listed := mem_ready.2 ⟨by simpa [Array.getD, hsz, hlt] using hil, _, Array.getElem?_eq_getElem hlt, fun e he hb => by
        have hlti := (hspec i _ (Array.getElem?_eq_getElem hlt) him).1 e he hb
        cases h : listed.getD e.on false
        · have := hmin e.on ((hmem _).2 ⟨by omega, h⟩); omega
        · rfl⟩
      rw [hr] at this
      cases this
    · obtain ⟨hil, o, ho, hdeps⟩ := mem_ready.1 hi
      have hlt : i < ops.size := (Array.getElem?_eq_some_iff.1 ho).1
      have hil' : listed.getD i false = false := by simpa [Array.getD, hsz, hlt] using hil
      have hreach := listed_reach hok (fun i => listed.getD i false) hcl i o ho hdeps
      have him : i < m := by
        rcases Nat.lt_or_ge i m with h | h
        · exact h
        · exfalso
          obtain ⟨k, hk⟩ := List.exists_mem_of_ne_nil U hne
          obtain ⟨hkm, hkl⟩ := (hmem k).1 hk
          have := hreach k (htail i hlt h k hkm)
          rw [hkl] at this; cases this
      obtain ⟨_, ⟨d, hd, hdsz, hduniq⟩, hlook⟩ := hspec i o ho him
      have hdst : dstOf ops i = some d := by simp [dstOf, ho, hd]
      have hso : ∀ cs b, o.op ≠ .select cs b := fun cs b => Region.noSelect_spec hsel i o cs b ho
      -- the two frames agree on what o looks at
      have hagree : ∀ t ∈ o.looksAt ops, (putD ops (fun i => listed.getD i false) x a0 m).tmps[t]? = (putS ops x a0 i).tmps[t]? := fun t ht => by
        by_cases hex : ∃ k, k < m ∧ dstOf ops k = some t
        · obtain ⟨k, hkm, hkd⟩ := hex
          have hkR := hlook t ht k hkm hkd
          have hki := reach_lt hok i hlt k hkR
          have hkl := hreach k hkR
          have hks : k < ops.size := by omega
          obtain ⟨_, ⟨d', hd', hdsz', hu'⟩, _⟩ := hspec k _ (Array.getElem?_eq_getElem hks) hkm
          have htd : d' = t := by
            have : dstOf ops k = some d' := by simp [dstOf, Array.getElem?_eq_getElem hks, hd']
            rw [hkd] at this; injection this with this; exact this.symm
          rw [putD_at _ _ _ _ k hkd hkl (htd ▸ hdsz') m hkm (fun l hl hlk => htd ▸ hu' l hl hlk)]
          unfold putS
          rw [putD_at _ _ _ _ k hkd rfl (htd ▸ hdsz') i hki (fun l hl hlk => htd ▸ hu' l (by omega) hlk)]
        · rw [putD_other _ _ _ _ m (fun k hk hkd => absurd ⟨k, hk, hkd⟩ hex)]
          unfold putS
          rw [putD_other _ _ _ _ i (fun k hk hkd => absurd ⟨k, by omega, hkd⟩ hex)]
      have hob' := hob x i him w hS (fun k hk => by
        obtain ⟨hkR, hkC⟩ := availR_spec.1 hk
        refine hV k (by have := reach_lt hok i hlt k hkR; omega) (hreach k hkR) (fun j hj hc => ?_)
        rcases hkC j hj hc with rfl | hij
        · exact hil'
        · cases hjl : listed.getD j false
          · rfl
          · have hjs : j < ops.size := by omega
            have := listed_reach hok (fun i => listed.getD i false) hcl j _ (Array.getElem?_eq_getElem hjs) (hcl j _ (Array.getElem?_eq_getElem hjs) hjl) i hij
            rw [hil'] at this; cases this)
      have hsz1 := putD_size (ops := ops) (fun _ => true) x a0 i
      -- what comes behind
      have next : ∀ v w', ((V x).getD i VAny).p v w' → StepR C Rel i w w' → wpAny P .any ops Q (ops.size - m + c) (listed.setIfInBounds i true) ((putD ops (fun i => listed.getD i false) x a0 m).put (some d) v) w' := fun v w' hv hb => by
        have hput := putD_put (ops := ops) (fun k => listed.getD k false) (fun k => (listed.setIfInBounds i true).getD k false) x (fun k => if k = i then v else x k) a0 i hil'
          (by simp [hsz, hlt]) (fun k hk => ⟨by rw [getD_set_ne _ (Ne.symm hk)], by simp [hk]⟩) m him
          (fun d' k hk hki hd' => by rw [hdst] at hd'; injection hd' with hd'; exact hd' ▸ hduniq k hk hki)
        simp only [if_true] at hput
        rw [← hdst, hput]
        refine ih (U.erase i) _ _ _ ?_ (hnd.erase _) (fun k => ?_) (by simpa using hsz) (fun k h1 h2 => ?_) (fun j oj hoj hj e he hb' => ?_) (hSt i _ _ hS hb) (fun k hk hkl hcons => ?_)
        · rw [List.length_erase_of_mem ((hmem i).2 ⟨him, hil'⟩), hU]; rfl
        · rw [hnd.mem_erase_iff, hmem]
          by_cases hk : k = i
          · subst hk; simp [hsz, hlt]
          · rw [getD_set_ne _ (Ne.symm hk)]; simp [hk]
        · rw [getD_set_ne _ (by omega)]; exact hun k h1 h2
        · by_cases hji : j = i
          · subst hji
            rw [ho] at hoj; injection hoj with hoj; subst hoj
            exact getD_set_true (hdeps e he hb')
          · rw [getD_set_ne _ (Ne.symm hji)] at hj
            exact getD_set_true (hcl j oj hoj hj e he hb')
        · by_cases hki : k = i
          · subst hki
            rw [hdep _ x k (fun l hl => by have := reach_lt hok k hlt l hl; simp only [show l ≠ k by omega, if_false])]
            simpa using hv
          · rw [getD_set_ne _ (Ne.symm hki)] at hkl
            have hks : k < ops.size := by omega
            have hdk : (V fun l => if l = i then v else x l).getD k VAny = (V x).getD k VAny := hdep _ x k (fun l hl => by
              have hll := listed_reach hok (fun i => listed.getD i false) hcl k _ (Array.getElem?_eq_getElem hks) (hcl k _ (Array.getElem?_eq_getElem hks) hkl) l hl
              have hne : l ≠ i := fun e => by rw [e] at hll; rw [hil'] at hll; cases hll
              simp only [hne, if_false])
            simp only [hki, if_false]
            rw [hdk]
            have hb0 : ∀ j, j < m → k ∈ C.getD j [] → listed.getD j false = false := fun j hj hc => by
              have h1 := hcons j hj hc
              by_cases hji : j = i
              · rw [hji]; exact hil'
              · rwa [getD_set_ne _ (Ne.symm hji)] at h1
            have hkC : k ∉ C.getD i [] := fun hc => by
              have h1 := hcons i him hc
              simp [hsz, hlt] at h1
            have hiR : i ∉ R.getD k [] := fun hik => by
              have := listed_reach hok (fun i => listed.getD i false) hcl k _ (Array.getElem?_eq_getElem hks) (hcl k _ (Array.getElem?_eq_getElem hks) hkl) i hik
              rw [hil'] at this; cases this
            cases he : (C.getD i []).isEmpty
            · replace hb : Rel w w' := by unfold StepR at hb; rw [he] at hb; exact hb
              exact hweak i him he k hk hki hiR hkC x _ _ _ (hV k hk hkl hb0) hb
            · replace hb : Below w.heap.size w w' := by unfold StepR at hb; rw [he] at hb; exact hb
              exact ((V x).getD k VAny).st _ _ _ (hV k hk hkl hb0) hb
      unfold wpOp at hob' ⊢
      simp only [ho] at hob' ⊢
      rw [wanted_same hagree]
      split
      · rename_i hw
        rw [if_pos hw] at hob'
        rcases hob' with h | ⟨_, h⟩
        case inr => exact absurd h NoWay.lets
        refine .inl (Oper.wp_mono ?_ (wp_move (Q := Q) (d := d) (R := fun v w' => ((V x).getD i VAny).p v w' ∧ StepR C Rel i w w') (exec_same hso hagree) hd (by unfold putS; rw [hsz1.1]; exact hdsz)
          (Oper.wp_mono (fun a' w' ⟨v, h1, h2, h3, h4⟩ => ⟨v, h1 d hdst, by unfold putS; rw [hsz1.2]; exact h2, h3, h4⟩) h)))
        rintro a' w' ⟨v, rfl, hv, hb⟩
        exact next v w' hv hb
      · rename_i hw
        rw [if_neg hw] at hob'
        obtain ⟨v, h1, _, h3, h4⟩ := hob'
        have hvu : v = undef := by
          have := h1 d hdst
          rw [hd] at this
          simp [Act.put, putS, hsz1.1, hdsz] at this
          exact this.symm
        rw [hd]
        exact next undef w (hvu ▸ h3) h4
/-- **A region that draws its order**: each of its first m operations is shown once; what is left behind them goes on. -/
theorem wp_tasksR {id m : Nat} {Rel : World → World → Prop} (R C : List (List Nat)) (V : (Nat → Value) → List VP) (S : World → Prop) {a0 : Act} {w : World} (hm : P.follows .mixedOrders = true) (hok : tasksOk ops m a0.tmps.size R = true)
    (hdep : ∀ x x' j, (∀ i ∈ R.getD j [], x i = x' i) → (V x).getD j VAny = (V x').getD j VAny) (hweak : ∀ i, i < m → (C.getD i []).isEmpty = false → ∀ k, k < m → k ≠ i → i ∉ R.getD k [] → k ∉ C.getD i [] → ∀ x v w w', ((V x).getD k VAny).p v w → Rel w w' → ((V x).getD k VAny).p v w') (hS0 : S w.drew) (hSt : ∀ j w w', S w → StepR C Rel j w w' → S w') (hob : ∀ x j, j < m → ObR P ops S R C Rel m V x a0 j)
    (hend : ∀ x w', S w' → (∀ i ∈ endR C m, ((V x).getD i VAny).p (x i) w') → wpAny P .any ops Q (ops.size - m) (listedTo ops.size m) (putS ops x a0 m) w') : (Code.region id ops true).wp P Q a0 w := by
  have hmn := (tasks_spec hok).1
  have hf : ∀ i, (Array.replicate ops.size false).getD i false = false := fun i => by simp [Array.getD]
  have h := tasks_goR (Q := Q) hok hdep hweak hSt hob hend m (List.range m) (Array.replicate ops.size false) w.drew (fun _ => undef) (by simp) List.nodup_range (fun i => by rw [hf]; simp) (by simp) (fun i _ _ => hf i) (fun j o _ hj => by rw [hf] at hj; cases hj) hS0
    (fun i _ hi => by rw [hf] at hi; cases hi)
  refine wp_region_any hm ?_
  rw [show ops.size - m + m = ops.size by omega, putD_congr (ops := ops) _ (fun _ => false) _ (fun _ => undef) a0 m (fun i _ => ⟨hf i, fun _ => rfl⟩)] at h
  have e : ∀ n, putD ops (fun _ => false) (fun _ => undef) a0 n = a0 := fun n => by
    induction n with
    | zero => rfl
    | succ n ih => unfold putD; simpa using ih
  rw [e] at h
  exact h
/-- What is to be shown, operation by operation, in the text's order; the frame goes along. -/
def ObsR (P : Program) (ops : Array Oper) (Q : Exit → Act → World → Prop) (S : World → Prop) (R C : List (List Nat)) (Rel : World → World → Prop) (m : Nat) (V : (Nat → Value) → List VP) (x : Nat → Value) : Nat → Nat → Act → Prop
  | 0, j, a => ∀ w, S w → (∀ i ∈ endR C m, ((V x).getD i VAny).p (x i) w) → wpAny P .any ops Q (ops.size - j) (listedTo ops.size j) a w
  | r + 1, j, a => (∀ w, S w → (∀ i ∈ availR R C m j, ((V x).getD i VAny).p (x i) w) →
      wpOp P ops NoWay j (fun a' w' => ∃ v, (∀ d, dstOf ops j = some d → a'.tmps[d]? = some v) ∧ a'.defers = a.defers ∧ ((V x).getD j VAny).p v w' ∧ StepR C Rel j w w') a w) ∧
    ObsR P ops Q S R C Rel m V x r (j + 1) (a.put (dstOf ops j) (x j))
theorem obs_allR {S : World → Prop} {R C : List (List Nat)} {Rel : World → World → Prop} {m : Nat} {V : (Nat → Value) → List VP} {x : Nat → Value} {a0 : Act} : ∀ (r j : Nat), ObsR P ops Q S R C Rel m V x r j (putS ops x a0 j) →
    (∀ k, j ≤ k → k < j + r → ObR P ops S R C Rel m V x a0 k) ∧ ∀ w, S w → (∀ i ∈ endR C m, ((V x).getD i VAny).p (x i) w) → wpAny P .any ops Q (ops.size - (j + r)) (listedTo ops.size (j + r)) (putS ops x a0 (j + r)) w := by
  intro r
  induction r with
  | zero => intro j h; exact ⟨fun k h1 h2 => by omega, h⟩
  | succ r ih =>
    intro j h
    obtain ⟨h1, h2⟩ := h
    have h2' : ObsR P ops Q S R C Rel m V x r (j + 1) (putS ops x a0 (j + 1)) := h2
    obtain ⟨h3, h4⟩ := ih (j + 1) h2'
    refine ⟨fun k hk1 hk2 => ?_, by rw [show j + (r + 1) = j + 1 + r by omega]; exact h4⟩
    by_cases hk : k = j
    · subst hk
      intro w hS hV
      have h := h1 w hS hV
      rw [show (putS ops x a0 k).defers = a0.defers from (putD_size _ _ _ _).2] at h
      exact h
    · exact h3 k (by omega) (by omega)
theorem wp_obsR {id : Nat} (m : Nat) (Rel : World → World → Prop) (R C : List (List Nat)) (V : (Nat → Value) → List VP) (S : World → Prop) {a0 : Act} {w : World} (hm : P.follows .mixedOrders = true) (hok : tasksOk ops m a0.tmps.size R = true)
    (hdep : ∀ x x' j, (∀ i ∈ R.getD j [], x i = x' i) → (V x).getD j VAny = (V x').getD j VAny) (hweak : ∀ i, i < m → (C.getD i []).isEmpty = false → ∀ k, k < m → k ≠ i → i ∉ R.getD k [] → k ∉ C.getD i [] → ∀ x v w w', ((V x).getD k VAny).p v w → Rel w w' → ((V x).getD k VAny).p v w') (hSt : ∀ j w w', S w → StepR C Rel j w w' → S w') (hS0 : S w.drew) (h : ∀ x, ObsR P ops Q S R C Rel m V x m 0 a0) : (Code.region id ops true).wp P Q a0 w :=
  wp_tasksR (m := m) (Rel := Rel) R C V S hm hok hdep hweak hS0 hSt (fun x j hj => (obs_allR m 0 (h x)).1 j (by omega) (by omega)) (fun x w' hS hV => by
    have := (obs_allR m 0 (h x)).2 w' hS (hV)
    rwa [Nat.zero_add] at this)
theorem obs_stepR {S : World → Prop} {R C : List (List Nat)} {Rel : World → World → Prop} {m : Nat} {V : (Nat → Value) → List VP} {x : Nat → Value} {r j : Nat} {a : Act} {o : Oper} {d : Tmp} (ho : ops[j]? = some o) (hd : o.dst = some d)
    (h : ∀ w, S w → (∀ i ∈ availR R C m j, ((V x).getD i VAny).p (x i) w) → ∀ K : Act → World → Prop, Shut (∀ a' w' v, a'.tmps[d]? = some v → a'.defers = a.defers → ((V x).getD j VAny).p v w' → StepR C Rel j w w' → K a' w') →
      if Region.wanted o (yielded ops a.tmps) = true then Oper.wp P o a w K NoWay else K (a.put o.dst undef) w)
    (hr : ObsR P ops Q S R C Rel m V x r (j + 1) { a with tmps := a.tmps.setIfInBounds d (x j) }) : ObsR P ops Q S R C Rel m V x (r + 1) j a := by
  have hdst : dstOf ops j = some d := by simp [dstOf, ho, hd]
  refine ⟨fun w hS hV => wpOp_step ho (fun K hK => ?_), by rw [hdst]; exact hr⟩
  exact h w hS hV K (fun a' w' v h1 h2 h3 h4 => hK a' w' ⟨v, fun d' hd' => by rw [hdst] at hd'; injection hd' with hd'; exact hd' ▸ h1, h2, h3, h4⟩)
/-- Those that bear an append in place: their values are plain. -/
theorem weak_ofR {m : Nat} {Rel : World → World → Prop} {R C : List (List Nat)} {V : (Nat → Value) → List VP} (Wk : List Nat)
    (hchk : ((List.range m).all fun i => (C.getD i []).isEmpty || (List.range m).all fun k => k == i || (R.getD k []).contains i || (C.getD i []).contains k || Wk.contains k) = true)
    (hW : ∀ k ∈ Wk, ∀ x v w w', ((V x).getD k VAny).p v w → Rel w w' → ((V x).getD k VAny).p v w') :
    ∀ i, i < m → (C.getD i []).isEmpty = false → ∀ k, k < m → k ≠ i → i ∉ R.getD k [] → k ∉ C.getD i [] → ∀ x v w w', ((V x).getD k VAny).p v w → Rel w w' → ((V x).getD k VAny).p v w' := by
  intro i hi he k hk hne hR hC x v w w' hp hrel
  have h1 := List.all_eq_true.1 hchk i (List.mem_range.2 hi)
  rw [he, Bool.false_or] at h1
  have h2 := List.all_eq_true.1 h1 k (List.mem_range.2 hk)
  rw [Bool.or_eq_true, Bool.or_eq_true, Bool.or_eq_true, beq_iff_eq, List.contains_iff_mem, List.contains_iff_mem, List.contains_iff_mem] at h2
  rcases h2 with ((h2 | h2) | h2) | h2
  · exact absurd h2 hne
  · exact absurd h2 hR
  · exact absurd h2 hC
  · exact hW k h2 x v w w' hp hrel
end
end Go.Proofs.YtggigolkncckoaaGreat
