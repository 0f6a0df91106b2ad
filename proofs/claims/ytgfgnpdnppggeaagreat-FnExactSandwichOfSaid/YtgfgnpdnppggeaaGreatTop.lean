/-
  The functions on versors that a user calls: both sides return the same.
-/
import Derived.Test.YtgfgnpdnppggeaaGreatVers4
namespace Go.Proofs.YtgfgnpdnppggeaaGreat
open Go.RowKit

theorem Blk.new_at {w : World} {t : TypeId} {cs : Array Value} {g : Nat} (hg : g = w.heap.size) : Blk (w.alloc (.cells cs t)) g t cs := hg ▸ Blk.new w t cs
theorem RdII.nil (w : World) (A : Option Addr) : RdII w A 0 [] := ⟨[], Rd.nil w A, rfl, fun k h => absurd h (by simp)⟩
theorem codeVs_nil (P : Int) (sq : List Int) (ms : List (List Int)) : codeVs P sq ms [] = codeR P sq ms := by
  unfold codeVs codeR
  by_cases h : codeM P sq ms = 0
  · rw [if_pos h, if_pos h]
    have : codeV P sq [] = 0 := by unfold codeV; rw [(codeM_sp h).1]; rfl
    rw [if_pos this]
  · rw [if_neg h, if_neg h]
/-- What a code 0 says. -/
theorem codeR_zero {P : Int} {sq : List Int} {ms : List (List Int)} (h : codeR P sq ms = 0) : codeM P sq ms = 0 ∧ regB sq = true := by
  unfold codeR at h
  by_cases h1 : codeM P sq ms = 0
  · rw [if_pos h1] at h
    cases h2 : regB sq
    · rw [h2] at h; simp at h
    · exact ⟨h1, rfl⟩
  · rw [if_neg h1] at h; exact absurd h h1
theorem isMu_spec {P : Int} {sq ys : List Int} (h : isMu P sq ys = true) : ys.length = pw sq.length ∧ NumsL P ys := by
  unfold isMu at h
  simp only [Bool.and_eq_true, beq_iff_eq] at h
  exact ⟨by have := h.1; omega, nums_numsL h.2⟩
theorem isVe_spec {P : Int} {sq ys : List Int} (h : isVe P sq ys = true) : ys.length = sq.length ∧ NumsL P ys := by
  unfold isVe at h
  simp only [Bool.and_eq_true, beq_iff_eq] at h
  exact ⟨by have := h.1; omega, nums_numsL h.2⟩
theorem codeM_spec {P : Int} {sq : List Int} {ms : List (List Int)} (h : codeM P sq ms = 0) : isP P = true ∧ 2 ≤ P ∧ P ≤ 13 ∧ 1 ≤ sq.length ∧ sq.length ≤ 6 ∧ NumsL P sq ∧ ∀ ys ∈ ms, ys.length = pw sq.length ∧ NumsL P ys := by
  obtain ⟨h1, h2⟩ := codeM_sp h
  obtain ⟨hp, hd1, hd2, hnum⟩ := isSp_dim h1
  have := isP_ge hp
  exact ⟨hp, by omega, by omega, hd1, hd2, nums_numsL hnum, fun ys hy => isMu_spec (h2 ys hy)⟩

/-- The code of a regular space and a versor. -/
def codeVr (P : Int) (sq xs : List Int) : Int := if codeR P sq [xs] = 0 then (if versB P sq sq.length xs then 0 else 5) else codeR P sq [xs]
theorem versB_norm {P : Int} {sq : List Int} {n : Nat} {xs : List Int} (hp : 2 ≤ P) (h : versB P sq n xs = true) : 0 < nrmL P sq xs := by
  have h1 := nrmL_small hp sq xs
  have : (nrmL P sq xs == 0) = false := by
    unfold versB at h
    simp only [Bool.and_eq_true, Bool.not_eq_true'] at h
    exact h.1.1.1
  have : nrmL P sq xs ≠ 0 := by simpa using this
  omega

/-- IsVersor. -/
def isVersR (P : Int) (sq xs : List Int) : Bool × Int := if codeR P sq [xs] = 0 then (versB P sq sq.length xs, 0) else (false, codeR P sq [xs])
/-- IsRotor. -/
def isRotR (P : Int) (sq xs : List Int) : Bool × Int := if codeR P sq [xs] = 0 then (versB P sq sq.length xs && evenL xs, 0) else (false, codeR P sq [xs])

theorem ret_tup2 {a b : Bool} {x y : Int} (h1 : a = b) (h2 : x = y) : Ending.returned (.tuple #[.bool a, .int .i64 x]) = .returned (.tuple #[.bool b, .int .i64 y]) := by rw [h1, h2]
theorem ret_tupS {A : Option Addr} {k c : Nat} {x y : Int} (h2 : x = y) : Ending.returned (.tuple #[.slice A k c, .int .i64 x]) = .returned (.tuple #[.slice A k c, .int .i64 y]) := by rw [h2]

set_option maxHeartbeats 1600000 in
set_option maxRecDepth 8000 in
theorem IsVersor_any (P : Int) (A : Option Addr) (n c : Nat) (sq : List Int) (X : Option Addr) (m cx : Nat) (xs : List Int) (w : World) (hn : n ≤ 1048576) (hm : m ≤ 1048576) (ha : Rd w A n (ints sq)) (hx : Rd w X m (ints xs)) (hcx : m ≤ cx) :
    Calls Tryz.prog 17 #[.agg #[.int .i64 P, .slice A n c], .slice X m cx] w fun e w' => e = .returned (.tuple #[.bool (isVersR P sq xs).1, .int .i64 (isVersR P sq xs).2]) ∧ Below w.heap.size w w' := by
  have hB0 : Below w.heap.size w (w.alloc (.cells #[.int .i64 P, .slice A n c] 28)) := (Below.refl _ _).alloc (Nat.le_refl _) _
  have k0 : Blk (w.alloc (.cells #[.int .i64 P, .slice A n c] 28)) w.heap.size 28 #[.int .i64 P, .slice A n c] := Blk.new _ _ _
  have hB1 : Below w.heap.size w ((w.alloc (.cells #[.int .i64 P, .slice A n c] 28)).alloc (.cells #[.slice X m cx] 22)) := hB0.alloc (by simp) _
  have k1 : Blk ((w.alloc (.cells #[.int .i64 P, .slice A n c] 28)).alloc (.cells #[.slice X m cx] 22)) w.heap.size 28 #[.int .i64 P, .slice A n c] := k0.alloc _
  have hreg := checkVersors_any P A (some ⟨w.heap.size + 1, 0, none⟩) none n c 1 1 0 0 sq [xs] [] ((w.alloc (.cells #[.int .i64 P, .slice A n c] 28)).alloc (.cells #[.slice X m cx] 22)) hn (by omega) (by omega) (ha.below hB1) (rdII_one' (Blk.new_at (by simp)) (hx.below hB1) hcx) (all_one (by rw [hx.lenI]; exact hm)) (RdII.nil _ _) (by simp)
  rw [codeVs_nil] at hreg
  obtain ⟨r, hr⟩ : ∃ r, r = codeR P sq [xs] := ⟨_, rfl⟩
  have HR := Lib.hid hr
  by_cases hr0 : r = 0
  · have hcM := (codeR_zero (hr.symm.trans hr0)).1
    obtain ⟨HP, hp, hp2, hd1, hd2, hs, hms⟩ := codeM_spec hcM
    have hxl := hx.lenI
    have hsl := ha.lenI
    obtain ⟨hl1, hxs⟩ := hms xs (by simp)
    have hn6 : n ≤ 6 := by omega
    have hmn : m = pw n := by rw [← hxl, hl1, hsl]
    subst hmn
    have HSL := Lib.hid hsl
    have HS := Lib.hid hs
    have HXS := Lib.hid hxs
    clear hxl hsl hms hl1 hd1 hd2 hcM hs hxs
    have HR0 := Lib.hid hr0
    have b0 := code_eq hr0
    clear hr hr0

    go_enter Tryz.func17, Tryz.ntmps17
    go_wp2_with fail
    refine hreg.mono ?_
    rintro e w2 ⟨rfl, hb2⟩
    rw [← HR.out]
    have hB2 := hB1.trans (hb2.mono hB1.size)
    have k2 := k1.below hb2 k1.lt
    obtain ⟨q0, q1⟩ := k2.two
    clear k1 hB1 hb2
    go_wp2_with fail
    refine (isVersor_any P A n c sq X cx xs _ hp hp2 hn6 (ha.below hB2) HS.out (hx.below hB2) HXS.out hcx).mono ?_
    rintro e w3 ⟨rfl, hb3⟩
    go_wp2
    go_ret2
    exact ⟨ret_tup2 (by unfold isVersR; rw [← HR.out, if_pos HR0.out, HSL.out]) (by unfold isVersR; rw [← HR.out, if_pos HR0.out]), hB2.trans (hb3.mono hB2.size)⟩
  · have HR0 := Lib.hid hr0
    have b0 := code_ne hr0
    clear hr hr0
    go_enter Tryz.func17, Tryz.ntmps17
    go_wp2_with fail
    refine hreg.mono ?_
    rintro e w2 ⟨rfl, hb2⟩
    rw [← HR.out]
    have hB2 := hB1.trans (hb2.mono hB1.size)
    have k2 := k1.below hb2 k1.lt
    obtain ⟨q0, q1⟩ := k2.two
    clear k1 hB1 hb2
    go_wp2
    go_ret2
    exact ⟨ret_tup2 (by unfold isVersR; rw [← HR.out, if_neg HR0.out]) (by unfold isVersR; rw [← HR.out, if_neg HR0.out]), hB2⟩

set_option maxHeartbeats 1600000 in
set_option maxRecDepth 8000 in
theorem IsRotor_any (P : Int) (A : Option Addr) (n c : Nat) (sq : List Int) (X : Option Addr) (m cx : Nat) (xs : List Int) (w : World) (hn : n ≤ 1048576) (hm : m ≤ 1048576) (ha : Rd w A n (ints sq)) (hx : Rd w X m (ints xs)) (hcx : m ≤ cx) :
    Calls Tryz.prog 21 #[.agg #[.int .i64 P, .slice A n c], .slice X m cx] w fun e w' => e = .returned (.tuple #[.bool (isRotR P sq xs).1, .int .i64 (isRotR P sq xs).2]) ∧ Below w.heap.size w w' := by
  have hB0 : Below w.heap.size w (w.alloc (.cells #[.int .i64 P, .slice A n c] 28)) := (Below.refl _ _).alloc (Nat.le_refl _) _
  have k0 : Blk (w.alloc (.cells #[.int .i64 P, .slice A n c] 28)) w.heap.size 28 #[.int .i64 P, .slice A n c] := Blk.new _ _ _
  have hB1 : Below w.heap.size w ((w.alloc (.cells #[.int .i64 P, .slice A n c] 28)).alloc (.cells #[.slice X m cx] 22)) := hB0.alloc (by simp) _
  have k1 : Blk ((w.alloc (.cells #[.int .i64 P, .slice A n c] 28)).alloc (.cells #[.slice X m cx] 22)) w.heap.size 28 #[.int .i64 P, .slice A n c] := k0.alloc _
  have hreg := checkVersors_any P A (some ⟨w.heap.size + 1, 0, none⟩) none n c 1 1 0 0 sq [xs] [] ((w.alloc (.cells #[.int .i64 P, .slice A n c] 28)).alloc (.cells #[.slice X m cx] 22)) hn (by omega) (by omega) (ha.below hB1) (rdII_one' (Blk.new_at (by simp)) (hx.below hB1) hcx) (all_one (by rw [hx.lenI]; exact hm)) (RdII.nil _ _) (by simp)
  rw [codeVs_nil] at hreg
  obtain ⟨r, hr⟩ : ∃ r, r = codeR P sq [xs] := ⟨_, rfl⟩
  have HR := Lib.hid hr
  by_cases hr0 : r = 0
  · have hcM := (codeR_zero (hr.symm.trans hr0)).1
    obtain ⟨HP, hp, hp2, hd1, hd2, hs, hms⟩ := codeM_spec hcM
    have hxl := hx.lenI
    have hsl := ha.lenI
    obtain ⟨hl1, hxs⟩ := hms xs (by simp)
    have hn6 : n ≤ 6 := by omega
    have hmn : m = pw n := by rw [← hxl, hl1, hsl]
    subst hmn
    have HSL := Lib.hid hsl
    have HS := Lib.hid hs
    have HXS := Lib.hid hxs
    clear hxl hsl hms hl1 hd1 hd2 hcM hs hxs
    have HR0 := Lib.hid hr0
    have b0 := code_eq hr0
    clear hr hr0

    cases hv : versB P sq n xs
    all_goals
      have HV := Lib.hid hv
      clear hv
      go_enter Tryz.func21, Tryz.ntmps21
      go_wp2_with fail
      refine hreg.mono ?_
      rintro e w2 ⟨rfl, hb2⟩
      rw [← HR.out]
      have hB2 := hB1.trans (hb2.mono hB1.size)
      have k2 := k1.below hb2 k1.lt
      obtain ⟨q0, q1⟩ := k2.two
      clear k1 hB1 hb2
      go_wp2_with fail
      refine (isVersor_any P A n c sq X cx xs _ hp hp2 hn6 (ha.below hB2) HS.out (hx.below hB2) HXS.out hcx).mono ?_
      rintro e w3 ⟨rfl, hb3⟩
      rw [HV.out]
      have hB3 := hB2.trans (hb3.mono hB2.size)
      have k3 := k2.below hb3 k2.lt
      clear q0 q1
      obtain ⟨q0, q1⟩ := k3.two
      go_wp2_with fail
    · go_ret2
      exact ⟨ret_tup2 (by unfold isRotR; rw [← HR.out, if_pos HR0.out, HSL.out, HV.out]; rfl) (by unfold isRotR; rw [← HR.out, if_pos HR0.out]), hB3⟩
    · refine (isEven_any _ _ _ _ _ (pw_le hn6) (hx.below hB3)).mono ?_
      rintro e w4 ⟨rfl, hb4⟩
      go_wp2
      go_ret2
      exact ⟨ret_tup2 (by unfold isRotR; rw [← HR.out, if_pos HR0.out, HSL.out, HV.out]; rfl) (by unfold isRotR; rw [← HR.out, if_pos HR0.out]), hB3.trans (hb4.mono hB3.size)⟩
  · have HR0 := Lib.hid hr0
    have b0 := code_ne hr0
    clear hr hr0
    go_enter Tryz.func21, Tryz.ntmps21
    go_wp2_with fail
    refine hreg.mono ?_
    rintro e w2 ⟨rfl, hb2⟩
    rw [← HR.out]
    have hB2 := hB1.trans (hb2.mono hB1.size)
    have k2 := k1.below hb2 k1.lt
    obtain ⟨q0, q1⟩ := k2.two
    clear k1 hB1 hb2
    go_wp2
    go_ret2
    exact ⟨ret_tup2 (by unfold isRotR; rw [← HR.out, if_neg HR0.out]) (by unfold isRotR; rw [← HR.out, if_neg HR0.out]), hB2⟩

set_option maxHeartbeats 1600000 in
set_option maxRecDepth 8000 in
theorem specIsVersor_any (P : Int) (A : Option Addr) (n c : Nat) (sq : List Int) (X : Option Addr) (m cx : Nat) (xs : List Int) (w : World) (hn : n ≤ 1048576) (hm : m ≤ 1048576) (ha : Rd w A n (ints sq)) (hx : Rd w X m (ints xs)) (hcx : m ≤ cx) :
    Calls Tryz.prog 14 #[.agg #[.int .i64 P, .slice A n c], .slice X m cx] w fun e w' => e = .returned (.tuple #[.bool (isVersR P sq xs).1, .int .i64 (isVersR P sq xs).2]) ∧ Below w.heap.size w w' := by
  have hB0 : Below w.heap.size w (w.alloc (.cells #[.int .i64 P, .slice A n c] 28)) := (Below.refl _ _).alloc (Nat.le_refl _) _
  have k0 : Blk (w.alloc (.cells #[.int .i64 P, .slice A n c] 28)) w.heap.size 28 #[.int .i64 P, .slice A n c] := Blk.new _ _ _
  have hB1 : Below w.heap.size w ((w.alloc (.cells #[.int .i64 P, .slice A n c] 28)).alloc (.cells #[.slice X m cx] 22)) := hB0.alloc (by simp) _
  have k1 : Blk ((w.alloc (.cells #[.int .i64 P, .slice A n c] 28)).alloc (.cells #[.slice X m cx] 22)) w.heap.size 28 #[.int .i64 P, .slice A n c] := k0.alloc _
  have hreg := l05Regular_any P A (some ⟨w.heap.size + 1, 0, none⟩) n c 1 1 sq [xs] ((w.alloc (.cells #[.int .i64 P, .slice A n c] 28)).alloc (.cells #[.slice X m cx] 22)) hn (by omega) (ha.below hB1) (rdII_one' (Blk.new_at (by simp)) (hx.below hB1) hcx) (all_one (by rw [hx.lenI]; exact hm))
  obtain ⟨r, hr⟩ : ∃ r, r = codeR P sq [xs] := ⟨_, rfl⟩
  have HR := Lib.hid hr
  by_cases hr0 : r = 0
  · have hcM := (codeR_zero (hr.symm.trans hr0)).1
    obtain ⟨HP, hp, hp2, hd1, hd2, hs, hms⟩ := codeM_spec hcM
    have hxl := hx.lenI
    have hsl := ha.lenI
    obtain ⟨hl1, hxs⟩ := hms xs (by simp)
    have hn6 : n ≤ 6 := by omega
    have hmn : m = pw n := by rw [← hxl, hl1, hsl]
    subst hmn
    have HSL := Lib.hid hsl
    have HS := Lib.hid hs
    have HXS := Lib.hid hxs
    clear hxl hsl hms hl1 hd1 hd2 hcM hs hxs
    have HR0 := Lib.hid hr0
    have b0 := code_eq hr0
    clear hr hr0

    go_enter Tryz.func14, Tryz.ntmps14
    go_wp2_with fail
    refine hreg.mono ?_
    rintro e w2 ⟨rfl, hb2⟩
    rw [← HR.out]
    have hB2 := hB1.trans (hb2.mono hB1.size)
    have k2 := k1.below hb2 k1.lt
    obtain ⟨q0, q1⟩ := k2.two
    clear k1 hB1 hb2
    go_wp2_with fail
    refine (l07Is_any P A n c sq X cx xs _ hp hp2 hn6 (ha.below hB2) HS.out (hx.below hB2) HXS.out hcx HP).mono ?_
    rintro e w3 ⟨rfl, hb3⟩
    go_wp2
    go_ret2
    exact ⟨ret_tup2 (by unfold isVersR; rw [← HR.out, if_pos HR0.out, HSL.out]) (by unfold isVersR; rw [← HR.out, if_pos HR0.out]), hB2.trans (hb3.mono hB2.size)⟩
  · have HR0 := Lib.hid hr0
    have b0 := code_ne hr0
    clear hr hr0
    go_enter Tryz.func14, Tryz.ntmps14
    go_wp2_with fail
    refine hreg.mono ?_
    rintro e w2 ⟨rfl, hb2⟩
    rw [← HR.out]
    have hB2 := hB1.trans (hb2.mono hB1.size)
    have k2 := k1.below hb2 k1.lt
    obtain ⟨q0, q1⟩ := k2.two
    clear k1 hB1 hb2
    go_wp2
    go_ret2
    exact ⟨ret_tup2 (by unfold isVersR; rw [← HR.out, if_neg HR0.out]) (by unfold isVersR; rw [← HR.out, if_neg HR0.out]), hB2⟩

set_option maxHeartbeats 1600000 in
set_option maxRecDepth 8000 in
theorem specIsRotor_any (P : Int) (A : Option Addr) (n c : Nat) (sq : List Int) (X : Option Addr) (m cx : Nat) (xs : List Int) (w : World) (hn : n ≤ 1048576) (hm : m ≤ 1048576) (ha : Rd w A n (ints sq)) (hx : Rd w X m (ints xs)) (hcx : m ≤ cx) :
    Calls Tryz.prog 20 #[.agg #[.int .i64 P, .slice A n c], .slice X m cx] w fun e w' => e = .returned (.tuple #[.bool (isRotR P sq xs).1, .int .i64 (isRotR P sq xs).2]) ∧ Below w.heap.size w w' := by
  have hB0 : Below w.heap.size w (w.alloc (.cells #[.int .i64 P, .slice A n c] 28)) := (Below.refl _ _).alloc (Nat.le_refl _) _
  have k0 : Blk (w.alloc (.cells #[.int .i64 P, .slice A n c] 28)) w.heap.size 28 #[.int .i64 P, .slice A n c] := Blk.new _ _ _
  have hB1 : Below w.heap.size w ((w.alloc (.cells #[.int .i64 P, .slice A n c] 28)).alloc (.cells #[.slice X m cx] 22)) := hB0.alloc (by simp) _
  have k1 : Blk ((w.alloc (.cells #[.int .i64 P, .slice A n c] 28)).alloc (.cells #[.slice X m cx] 22)) w.heap.size 28 #[.int .i64 P, .slice A n c] := k0.alloc _
  have hreg := l05Regular_any P A (some ⟨w.heap.size + 1, 0, none⟩) n c 1 1 sq [xs] ((w.alloc (.cells #[.int .i64 P, .slice A n c] 28)).alloc (.cells #[.slice X m cx] 22)) hn (by omega) (ha.below hB1) (rdII_one' (Blk.new_at (by simp)) (hx.below hB1) hcx) (all_one (by rw [hx.lenI]; exact hm))
  obtain ⟨r, hr⟩ : ∃ r, r = codeR P sq [xs] := ⟨_, rfl⟩
  have HR := Lib.hid hr
  by_cases hr0 : r = 0
  · have hcM := (codeR_zero (hr.symm.trans hr0)).1
    obtain ⟨HP, hp, hp2, hd1, hd2, hs, hms⟩ := codeM_spec hcM
    have hxl := hx.lenI
    have hsl := ha.lenI
    obtain ⟨hl1, hxs⟩ := hms xs (by simp)
    have hn6 : n ≤ 6 := by omega
    have hmn : m = pw n := by rw [← hxl, hl1, hsl]
    subst hmn
    have HSL := Lib.hid hsl
    have HS := Lib.hid hs
    have HXS := Lib.hid hxs
    clear hxl hsl hms hl1 hd1 hd2 hcM hs hxs
    have HR0 := Lib.hid hr0
    have b0 := code_eq hr0
    clear hr hr0

    cases hv : versB P sq n xs
    all_goals
      have HV := Lib.hid hv
      clear hv
      go_enter Tryz.func20, Tryz.ntmps20
      go_wp2_with fail
      refine hreg.mono ?_
      rintro e w2 ⟨rfl, hb2⟩
      rw [← HR.out]
      have hB2 := hB1.trans (hb2.mono hB1.size)
      have k2 := k1.below hb2 k1.lt
      obtain ⟨q0, q1⟩ := k2.two
      clear k1 hB1 hb2
      go_wp2_with fail
      refine (l07Is_any P A n c sq X cx xs _ hp hp2 hn6 (ha.below hB2) HS.out (hx.below hB2) HXS.out hcx HP).mono ?_
      rintro e w3 ⟨rfl, hb3⟩
      rw [HV.out]
      have hB3 := hB2.trans (hb3.mono hB2.size)
      have k3 := k2.below hb3 k2.lt
      clear q0 q1
      obtain ⟨q0, q1⟩ := k3.two
      go_wp2_with fail
    · go_ret2
      exact ⟨ret_tup2 (by unfold isRotR; rw [← HR.out, if_pos HR0.out, HSL.out, HV.out]; rfl) (by unfold isRotR; rw [← HR.out, if_pos HR0.out]), hB3⟩
    · refine (l04Even_any P A n c X cx xs _ HP hn6 (hx.below hB3) HXS.out).mono ?_
      rintro e w4 ⟨rfl, hb4⟩
      go_wp2
      go_ret2
      exact ⟨ret_tup2 (by unfold isRotR; rw [← HR.out, if_pos HR0.out, HSL.out, HV.out]; rfl) (by unfold isRotR; rw [← HR.out, if_pos HR0.out]), hB3.trans (hb4.mono hB3.size)⟩
  · have HR0 := Lib.hid hr0
    have b0 := code_ne hr0
    clear hr hr0
    go_enter Tryz.func20, Tryz.ntmps20
    go_wp2_with fail
    refine hreg.mono ?_
    rintro e w2 ⟨rfl, hb2⟩
    rw [← HR.out]
    have hB2 := hB1.trans (hb2.mono hB1.size)
    have k2 := k1.below hb2 k1.lt
    obtain ⟨q0, q1⟩ := k2.two
    clear k1 hB1 hb2
    go_wp2
    go_ret2
    exact ⟨ret_tup2 (by unfold isRotR; rw [← HR.out, if_neg HR0.out]) (by unfold isRotR; rw [← HR.out, if_neg HR0.out]), hB2⟩

set_option maxHeartbeats 1600000 in
set_option maxRecDepth 8000 in
theorem l07Code_any (P : Int) (A : Option Addr) (n c : Nat) (sq : List Int) (X : Option Addr) (m cx : Nat) (xs : List Int) (w : World) (hn : n ≤ 1048576) (hm : m ≤ 1048576) (ha : Rd w A n (ints sq)) (hx : Rd w X m (ints xs)) (hcx : m ≤ cx) :
    Calls Tryz.prog 64 #[.agg #[.int .i64 P, .slice A n c], .slice X m cx] w fun e w' => e = .returned (.int .i64 (codeVr P sq xs)) ∧ Below w.heap.size w w' := by
  have hB0 : Below w.heap.size w (w.alloc (.cells #[.int .i64 P, .slice A n c] 28)) := (Below.refl _ _).alloc (Nat.le_refl _) _
  have k0 : Blk (w.alloc (.cells #[.int .i64 P, .slice A n c] 28)) w.heap.size 28 #[.int .i64 P, .slice A n c] := Blk.new _ _ _
  have hB1 : Below w.heap.size w ((w.alloc (.cells #[.int .i64 P, .slice A n c] 28)).alloc (.cells #[.slice X m cx] 22)) := hB0.alloc (by simp) _
  have k1 : Blk ((w.alloc (.cells #[.int .i64 P, .slice A n c] 28)).alloc (.cells #[.slice X m cx] 22)) w.heap.size 28 #[.int .i64 P, .slice A n c] := k0.alloc _
  have hreg := l05Regular_any P A (some ⟨w.heap.size + 1, 0, none⟩) n c 1 1 sq [xs] ((w.alloc (.cells #[.int .i64 P, .slice A n c] 28)).alloc (.cells #[.slice X m cx] 22)) hn (by omega) (ha.below hB1) (rdII_one' (Blk.new_at (by simp)) (hx.below hB1) hcx) (all_one (by rw [hx.lenI]; exact hm))
  obtain ⟨r, hr⟩ : ∃ r, r = codeR P sq [xs] := ⟨_, rfl⟩
  have HR := Lib.hid hr
  by_cases hr0 : r = 0
  · have hcM := (codeR_zero (hr.symm.trans hr0)).1
    obtain ⟨HP, hp, hp2, hd1, hd2, hs, hms⟩ := codeM_spec hcM
    have hxl := hx.lenI
    have hsl := ha.lenI
    obtain ⟨hl1, hxs⟩ := hms xs (by simp)
    have hn6 : n ≤ 6 := by omega
    have hmn : m = pw n := by rw [← hxl, hl1, hsl]
    subst hmn
    have HSL := Lib.hid hsl
    have HS := Lib.hid hs
    have HXS := Lib.hid hxs
    clear hxl hsl hms hl1 hd1 hd2 hcM hs hxs
    have HR0 := Lib.hid hr0
    have b0 := code_eq hr0
    clear hr hr0

    have b0' : (r == 0) = true := by rw [HR0.out]; rfl
    cases hv : versB P sq n xs
    all_goals
      have HV := Lib.hid hv
      clear hv
      go_enter Tryz.func64, Tryz.ntmps64
      go_wp2_with fail
      refine hreg.mono ?_
      rintro e w2 ⟨rfl, hb2⟩
      rw [← HR.out]
      have hB2 := hB1.trans (hb2.mono hB1.size)
      have k2 := k1.below hb2 k1.lt
      obtain ⟨q0, q1⟩ := k2.two
      clear k1 hB1 hb2
      go_wp2_with fail
      refine (l07Is_any P A n c sq X cx xs _ hp hp2 hn6 (ha.below hB2) HS.out (hx.below hB2) HXS.out hcx HP).mono ?_
      rintro e w3 ⟨rfl, hb3⟩
      rw [HV.out]
      go_wp2
      go_ret
      exact ⟨ret_int (by unfold codeVr; rw [← HR.out, if_pos HR0.out, HSL.out, HV.out]; first | rfl | exact HR0.out), hB2.trans (hb3.mono hB2.size)⟩
  · have HR0 := Lib.hid hr0
    have b0 := code_ne hr0
    clear hr hr0
    go_enter Tryz.func64, Tryz.ntmps64
    go_wp2_with fail
    refine hreg.mono ?_
    rintro e w2 ⟨rfl, hb2⟩
    rw [← HR.out]
    have hB2 := hB1.trans (hb2.mono hB1.size)
    have k2 := k1.below hb2 k1.lt
    obtain ⟨q0, q1⟩ := k2.two
    clear k1 hB1 hb2
    have b0' : (r == 0) = false := by have := HR0.out; simp [this]
    go_wp2
    go_ret
    exact ⟨ret_int (by unfold codeVr; rw [← HR.out, if_neg HR0.out]), hB2⟩

/-- VersorInverse. -/
def vinvR (P : Int) (sq xs : List Int) : List Int × Int := if codeVr P sq xs = 0 then (vinvL P sq xs, 0) else ([], codeVr P sq xs)
/-- SandwichOf. -/
def sandR (P : Int) (sq xs v : List Int) : List Int × Int :=
  if codeM P sq [xs] = 0 then (if isVe P sq v then (if codeVr P sq xs = 0 then (sandL P sq sq.length xs v, 0) else ([], codeVr P sq xs)) else ([], 2)) else ([], codeM P sq [xs])
/-- SandwichOfMultivector. -/
def sandM (P : Int) (sq xs ys : List Int) : List Int := mulL P sq (mulL P sq xs (if evenL xs then ys else invoL P ys)) (vinvL P sq xs)
def sandMR (P : Int) (sq xs ys : List Int) : List Int × Int :=
  if codeM P sq [xs, ys] = 0 then (if codeVr P sq xs = 0 then (sandM P sq xs ys, 0) else ([], codeVr P sq xs)) else ([], codeM P sq [xs, ys])
theorem codeVr_eq {P : Int} {sq xs : List Int} (h : codeR P sq [xs] = 0) : codeVr P sq xs = if versB P sq sq.length xs then 0 else 5 := by unfold codeVr; rw [if_pos h]
theorem codeVr_ne {P : Int} {sq xs : List Int} (h : ¬ codeR P sq [xs] = 0) : codeVr P sq xs = codeR P sq [xs] := by unfold codeVr; rw [if_neg h]
theorem codeVr_zero {P : Int} {sq xs : List Int} (h : codeVr P sq xs = 0) : codeR P sq [xs] = 0 ∧ versB P sq sq.length xs = true := by
  unfold codeVr at h
  by_cases h1 : codeR P sq [xs] = 0
  · rw [if_pos h1] at h
    cases h2 : versB P sq sq.length xs
    · rw [h2] at h; simp at h
    · exact ⟨h1, rfl⟩
  · rw [if_neg h1] at h; exact absurd h h1

set_option maxHeartbeats 1600000 in
set_option maxRecDepth 8000 in
theorem VersorInverse_any (P : Int) (A : Option Addr) (n c : Nat) (sq : List Int) (X : Option Addr) (m cx : Nat) (xs : List Int) (w : World) (hn : n ≤ 1048576) (hm : m ≤ 1048576) (ha : Rd w A n (ints sq)) (hx : Rd w X m (ints xs)) (hcx : m ≤ cx) :
    Calls Tryz.prog 35 #[.agg #[.int .i64 P, .slice A n c], .slice X m cx] w fun e w' => ∃ (A' : Option Addr) (k c' : Nat), e = .returned (.tuple #[.slice A' k c', .int .i64 (vinvR P sq xs).2]) ∧ MkI w w' A' k c' (vinvR P sq xs).1 := by
  have hB0 : Below w.heap.size w (w.alloc (.cells #[.int .i64 P, .slice A n c] 28)) := (Below.refl _ _).alloc (Nat.le_refl _) _
  have k0 : Blk (w.alloc (.cells #[.int .i64 P, .slice A n c] 28)) w.heap.size 28 #[.int .i64 P, .slice A n c] := Blk.new _ _ _
  have hB1 : Below w.heap.size w ((w.alloc (.cells #[.int .i64 P, .slice A n c] 28)).alloc (.cells #[.slice X m cx] 22)) := hB0.alloc (by simp) _
  have k1 : Blk ((w.alloc (.cells #[.int .i64 P, .slice A n c] 28)).alloc (.cells #[.slice X m cx] 22)) w.heap.size 28 #[.int .i64 P, .slice A n c] := k0.alloc _
  have hreg := checkVersors_any P A (some ⟨w.heap.size + 1, 0, none⟩) none n c 1 1 0 0 sq [xs] [] ((w.alloc (.cells #[.int .i64 P, .slice A n c] 28)).alloc (.cells #[.slice X m cx] 22)) hn (by omega) (by omega) (ha.below hB1) (rdII_one' (Blk.new_at (by simp)) (hx.below hB1) hcx) (all_one (by rw [hx.lenI]; exact hm)) (RdII.nil _ _) (by simp)
  rw [codeVs_nil] at hreg
  obtain ⟨r, hr⟩ : ∃ r, r = codeR P sq [xs] := ⟨_, rfl⟩
  have HR := Lib.hid hr
  by_cases hr0 : r = 0
  · have hcM := (codeR_zero (hr.symm.trans hr0)).1
    obtain ⟨HP, hp, hp2, hd1, hd2, hs, hms⟩ := codeM_spec hcM
    have hxl := hx.lenI
    have hsl := ha.lenI
    obtain ⟨hl1, hxs⟩ := hms xs (by simp)
    have hn6 : n ≤ 6 := by omega
    have hmn : m = pw n := by rw [← hxl, hl1, hsl]
    subst hmn
    have HSL := Lib.hid hsl
    have HS := Lib.hid hs
    have HXS := Lib.hid hxs
    clear hxl hsl hms hl1 hd1 hd2 hcM hs hxs
    have HR0 := Lib.hid hr0
    have b0 := code_eq hr0
    clear hr hr0

    cases hv : versB P sq n xs
    all_goals
      have hcv := codeVr_eq (P := P) (sq := sq) (xs := xs) (by rw [← HR.out]; exact HR0.out)
      rw [HSL.out, hv] at hcv
      have HCV := Lib.hid hcv
      have HV := Lib.hid hv
      clear hv hcv
      go_enter Tryz.func35, Tryz.ntmps35
      go_wp2_with fail
      refine hreg.mono ?_
      rintro e w2 ⟨rfl, hb2⟩
      rw [← HR.out]
      have hB2 := hB1.trans (hb2.mono hB1.size)
      have k2 := k1.below hb2 k1.lt
      obtain ⟨q0, q1⟩ := k2.two
      clear k1 hB1 hb2
      go_wp2_with fail
      refine (isVersor_any P A n c sq X cx xs _ hp hp2 hn6 (ha.below hB2) HS.out (hx.below hB2) HXS.out hcx).mono ?_
      rintro e w3 ⟨rfl, hb3⟩
      rw [HV.out]
      have hB3 := hB2.trans (hb3.mono hB2.size)
      have k3 := k2.below hb3 k2.lt
      clear q0 q1
      obtain ⟨q0, q1⟩ := k3.two
      go_wp2_with fail
    · go_ret2
      refine ⟨none, 0, 0, ret_tupS ?_, ?_⟩
      · unfold vinvR; rw [HCV.out]; rfl
      · unfold vinvR; rw [HCV.out]
        exact Mk.nil hB3
    · refine (versorInverse_any P A n c sq X cx xs _ hp hp2 hn6 (ha.below hB3) HS.out (hx.below hB3) HXS.out hcx).mono ?_
      rintro e w4 ⟨A4, c4, rfl, hM⟩
      go_wp2
      go_ret2
      exact ⟨_, _, _, ret_tupS (by unfold vinvR; rw [HCV.out]; rfl), by unfold vinvR; rw [HCV.out]; exact hM.after hB3⟩
  · have HR0 := Lib.hid hr0
    have b0 := code_ne hr0
    clear hr hr0
    go_enter Tryz.func35, Tryz.ntmps35
    go_wp2_with fail
    refine hreg.mono ?_
    rintro e w2 ⟨rfl, hb2⟩
    rw [← HR.out]
    have hB2 := hB1.trans (hb2.mono hB1.size)
    have k2 := k1.below hb2 k1.lt
    obtain ⟨q0, q1⟩ := k2.two
    clear k1 hB1 hb2
    go_wp2
    go_ret2
    have hv : codeVr P sq xs = r := by rw [codeVr_ne (by rw [← HR.out]; exact HR0.out), HR.out]
    refine ⟨none, 0, 0, ret_tupS ?_, ?_⟩
    · unfold vinvR; rw [hv, if_neg HR0.out]
    · unfold vinvR; rw [hv, if_neg HR0.out]
      exact Mk.nil hB2

set_option maxHeartbeats 1600000 in
set_option maxRecDepth 8000 in
theorem specVersorInverse_any (P : Int) (A : Option Addr) (n c : Nat) (sq : List Int) (X : Option Addr) (m cx : Nat) (xs : List Int) (w : World) (hn : n ≤ 1048576) (hm : m ≤ 1048576) (ha : Rd w A n (ints sq)) (hx : Rd w X m (ints xs)) (hcx : m ≤ cx) :
    Calls Tryz.prog 34 #[.agg #[.int .i64 P, .slice A n c], .slice X m cx] w fun e w' => ∃ (A' : Option Addr) (k c' : Nat), e = .returned (.tuple #[.slice A' k c', .int .i64 (vinvR P sq xs).2]) ∧ MkI w w' A' k c' (vinvR P sq xs).1 := by
  have hB0 : Below w.heap.size w (w.alloc (.cells #[.int .i64 P, .slice A n c] 28)) := (Below.refl _ _).alloc (Nat.le_refl _) _
  have k0 : Blk (w.alloc (.cells #[.int .i64 P, .slice A n c] 28)) w.heap.size 28 #[.int .i64 P, .slice A n c] := Blk.new _ _ _
  have hreg := l07Code_any P A n c sq X m cx xs _ hn hm (ha.below hB0) (hx.below hB0) hcx
  obtain ⟨r, hr⟩ : ∃ r, r = codeVr P sq xs := ⟨_, rfl⟩
  have HR := Lib.hid hr
  by_cases hr0 : r = 0
  · obtain ⟨hcr, hvers⟩ := codeVr_zero (hr.symm.trans hr0)
    have hcM := (codeR_zero hcr).1
    obtain ⟨HP, hp, hp2, hd1, hd2, hs, hms⟩ := codeM_spec hcM
    have hxl := hx.lenI
    have hsl := ha.lenI
    obtain ⟨hl1, hxs⟩ := hms xs (by simp)
    have hn6 : n ≤ 6 := by omega
    have hmn : m = pw n := by rw [← hxl, hl1, hsl]
    subst hmn
    have HSL := Lib.hid hsl
    have HS := Lib.hid hs
    have HXS := Lib.hid hxs
    clear hxl hsl hms hl1 hd1 hd2 hcM hs hxs
    rw [HSL.out] at hvers
    have HV := Lib.hid hvers
    have hpos := versB_norm hp hvers
    have HR0 := Lib.hid hr0
    have b0 := code_eq hr0
    clear hr hr0 hcr hvers
    go_enter Tryz.func34, Tryz.ntmps34
    go_wp2_with fail
    refine hreg.mono ?_
    rintro e w2 ⟨rfl, hb2⟩
    rw [← HR.out]
    have hB2 := hB0.trans (hb2.mono (by simp))
    have k2 := k0.below hb2 k0.lt
    obtain ⟨q0, q1⟩ := k2.two
    clear k0 hB0 hb2
    go_wp2_with fail
    refine (l07Inverse_any P A n c sq X cx xs _ hp hp2 hn6 (ha.below hB2) HS.out (hx.below hB2) HXS.out hcx HP hpos).mono ?_
    rintro e w3 ⟨A3, c3, rfl, hM⟩
    go_wp2
    go_ret2
    exact ⟨_, _, _, ret_tupS (by unfold vinvR; rw [← HR.out, if_pos HR0.out]), by unfold vinvR; rw [← HR.out, if_pos HR0.out]; exact hM.after hB2⟩
  · have HR0 := Lib.hid hr0
    have b0 := code_ne hr0
    clear hr hr0
    go_enter Tryz.func34, Tryz.ntmps34
    go_wp2_with fail
    refine hreg.mono ?_
    rintro e w2 ⟨rfl, hb2⟩
    rw [← HR.out]
    have hB2 := hB0.trans (hb2.mono (by simp))
    have k2 := k0.below hb2 k0.lt
    obtain ⟨q0, q1⟩ := k2.two
    clear k0 hB0 hb2
    go_wp2
    go_ret2
    refine ⟨none, 0, 0, ret_tupS ?_, ?_⟩
    · unfold vinvR; rw [← HR.out, if_neg HR0.out]
    · unfold vinvR; rw [← HR.out, if_neg HR0.out]
      exact Mk.nil hB2

end Go.Proofs.YtgfgnpdnppggeaaGreat
