/-
  MatrixOfBivector that a user calls: both sides return the same.
-/
import Derived.Test.YtgfgnpdnppggeaaGreatKillTop
import Derived.Test.YtgfgnpdnppggeaaGreatLawKit2
namespace Go.Proofs.YtgfgnpdnppggeaaGreat
open Go.RowKit

/-- MatrixOfBivector. -/
def mobR (P : Int) (sq xs : List Int) : List (List Int) × Int := if codeB P sq [xs] = 0 then (matL P sq sq.length xs, 0) else ([], codeB P sq [xs])
theorem mobR_ok {P : Int} {sq xs : List Int} (h : codeB P sq [xs] = 0) : mobR P sq xs = (matL P sq sq.length xs, 0) := by unfold mobR; rw [if_pos h]
theorem mobR_bad {P : Int} {sq xs : List Int} (h : ¬ codeB P sq [xs] = 0) : mobR P sq xs = ([], codeB P sq [xs]) := by unfold mobR; rw [if_neg h]
theorem totL_tab {n m : Nat} {f : Nat → List Int} (h : ∀ i, (f i).length = m) : totL (tab n f) = n * m := by
  induction n with
  | zero => simp [tab, totL]
  | succ n ih => rw [tab_succ, totL_append, ih]; simp only [totL, h]; rw [Nat.add_mul]; omega
theorem mobR_len (P : Int) (sq xs : List Int) : (∀ x ∈ (mobR P sq xs).1, x.length ≤ 1099511627776) ∧ totL (mobR P sq xs).1 ≤ 1048576 ∧ (mobR P sq xs).1.length ≤ 1048576 := by
  by_cases h : codeB P sq [xs] = 0
  · obtain ⟨_, hp3, _, h1, h6, _, _⟩ := codeM_spec2 (codeR_zero2 (codeB_zero h))
    rw [mobR_ok h]
    have hl := matL_len (P := P) (by omega) sq (n := sq.length) (by omega) xs
    have ht := matL_tab (P := P) (by omega) sq sq.length xs
    show (∀ x ∈ matL P sq sq.length xs, x.length ≤ 1099511627776) ∧ totL (matL P sq sq.length xs) ≤ 1048576 ∧ (matL P sq sq.length xs).length ≤ 1048576
    refine ⟨fun x hx => by rw [(ht x hx).1]; omega, ?_, by omega⟩
    have hc := colsL_len P sq sq.length xs
    have : totL (matL P sq sq.length xs) = ((colsL P sq sq.length xs).getD 0 []).length * (colsL P sq sq.length xs).length := by
      unfold matL transL
      exact totL_tab fun i => tab_len _ _
    rw [this, hc, ((colsL_tab (P := P) (by omega) sq sq.length xs).row (i := 0) (by rw [hc]; omega)).1]
    have : sq.length * sq.length ≤ 6 * 6 := Nat.mul_le_mul h6 h6
    omega
  · rw [mobR_bad h]; simp [totL]
theorem noMat {w w' : World} {R : List (List Int) × Int} {x : Int} (hR : R = ([], x)) (hB : Below w.heap.size w w') :
    ∃ (A' : Option Addr) (k c' : Nat), Ending.returned (.tuple #[.slice none 0 0, .int .i64 x]) = .returned (.tuple #[.slice A' k c', .int .i64 R.2]) ∧ MkII w w' A' k c' R.1 := by
  subst hR
  exact ⟨none, 0, 0, rfl, MkII.nil hB⟩
theorem aMat {w w' : World} {R : List (List Int) × Int} {A : Option Addr} {k c : Nat} {L : List (List Int)} {x : Int} (hR : R = (L, x)) (hM : MkII w w' A k c L) :
    ∃ (A' : Option Addr) (k' c' : Nat), Ending.returned (.tuple #[.slice A k c, .int .i64 x]) = .returned (.tuple #[.slice A' k' c', .int .i64 R.2]) ∧ MkII w w' A' k' c' R.1 := by
  subst hR
  exact ⟨_, _, _, rfl, hM⟩

set_option maxHeartbeats 1600000 in
set_option maxRecDepth 8000 in
theorem MatrixOfBivector_any (P : Int) (A : Option Addr) (n c : Nat) (sq : List Int) (X : Option Addr) (m cx : Nat) (xs : List Int) (w : World) (hn : n ≤ 1048576) (hm : m ≤ 1048576) (ha : Rd w A n (ints sq)) (hx : Rd w X m (ints xs)) (hcx : m ≤ cx) :
    Calls Tryz.prog 28 #[.agg #[.int .i64 P, .slice A n c], .slice X m cx] w fun e w' => ∃ (A' : Option Addr) (k c' : Nat), e = .returned (.tuple #[.slice A' k c', .int .i64 (mobR P sq xs).2]) ∧ MkII w w' A' k c' (mobR P sq xs).1 := by
  have hB0 : Below w.heap.size w (w.alloc (.cells #[.int .i64 P, .slice A n c] 28)) := (Below.refl _ _).alloc (Nat.le_refl _) _
  have k0 : Blk (w.alloc (.cells #[.int .i64 P, .slice A n c] 28)) w.heap.size 28 #[.int .i64 P, .slice A n c] := Blk.new _ _ _
  have hB1 : Below w.heap.size w ((w.alloc (.cells #[.int .i64 P, .slice A n c] 28)).alloc (.cells #[.slice X m cx] 22)) := hB0.alloc (by simp) _
  have k1 : Blk ((w.alloc (.cells #[.int .i64 P, .slice A n c] 28)).alloc (.cells #[.slice X m cx] 22)) w.heap.size 28 #[.int .i64 P, .slice A n c] := k0.alloc _
  have hreg := checkBivectors_any P A (some ⟨w.heap.size + 1, 0, none⟩) n c 1 1 sq [xs] ((w.alloc (.cells #[.int .i64 P, .slice A n c] 28)).alloc (.cells #[.slice X m cx] 22)) hn (by omega) (ha.below hB1) (rdII_one' (Blk.newAt (by simp)) (hx.below hB1) hcx) (all_one (by rw [hx.lenI]; exact hm))
  by_cases hr0 : codeB P sq [xs] = 0
  · skip
    obtain ⟨HP, hp3, hp2, hd1, hd2, hs0, hms⟩ := codeM_spec2 (codeR_zero2 (codeB_zero hr0))
    have hsl := ha.lenI
    obtain ⟨hx1, hxs0⟩ := hms xs (by simp)
    have hmx : m = pw n := by rw [← hx.lenI, hx1, hsl]
    subst hmx
    rw [hr0] at hreg
    have HR0 := Lib.hid hr0
    have HSL := Lib.hid hsl
    have HS0 := Lib.hid hs0
    have HXS := Lib.hid hxs0
    have hn6 : n ≤ 6 := by omega
    have hn0 : 0 < n := by omega
    have hp : 2 ≤ P := by omega
    clear hr0 hsl hms hx1 hs0 hxs0 hd1 hd2
    go_enter Tryz.func28, Tryz.ntmps28
    go_wp2_with fail
    refine hreg.mono ?_
    rintro e w2 ⟨rfl, hb2⟩
    have hB2 := hB1.trans (hb2.mono hB1.size)
    have k2 := k1.below hb2 k1.lt
    obtain ⟨q0, q1⟩ := k2.two
    clear k0 hB0 k1 hB1 hb2
    go_wp2_with fail
    refine (turning_any P A n c sq X cx xs _ hp hp2 hn6 hn0 (ha.below hB2) HS0.out (hx.below hB2) HXS.out hcx HP).mono ?_
    rintro e w3 ⟨A3, c3, rfl, hM⟩
    go_wp2
    go_ret2
    exact aMat (by rw [mobR_ok HR0.out, HSL.out]; rfl) (hM.after hB2)
  · obtain ⟨r, hr⟩ : ∃ r, r = codeB P sq [xs] := ⟨_, rfl⟩
    have HR := Lib.hid hr
    have HR0 := Lib.hid hr0
    have b0 : (r != 0) = true := code_ne (by rw [hr]; exact hr0)
    rw [← hr] at hreg
    clear hr hr0
    go_enter Tryz.func28, Tryz.ntmps28
    go_wp2_with fail
    refine hreg.mono ?_
    rintro e w2 ⟨rfl, hb2⟩
    have hB2 := hB1.trans (hb2.mono hB1.size)
    have k2 := k1.below hb2 k1.lt
    obtain ⟨q0, q1⟩ := k2.two
    clear k0 hB0 k1 hB1 hb2
    go_wp2
    go_ret2
    exact noMat (by rw [mobR_bad HR0.out, HR.out]) hB2

set_option maxHeartbeats 1600000 in
set_option maxRecDepth 8000 in
theorem specMatrixOfBivector_any (P : Int) (A : Option Addr) (n c : Nat) (sq : List Int) (X : Option Addr) (m cx : Nat) (xs : List Int) (w : World) (hn : n ≤ 1048576) (hm : m ≤ 1048576) (ha : Rd w A n (ints sq)) (hx : Rd w X m (ints xs)) (hcx : m ≤ cx) :
    Calls Tryz.prog 27 #[.agg #[.int .i64 P, .slice A n c], .slice X m cx] w fun e w' => ∃ (A' : Option Addr) (k c' : Nat), e = .returned (.tuple #[.slice A' k c', .int .i64 (mobR P sq xs).2]) ∧ MkII w w' A' k c' (mobR P sq xs).1 := by
  have hB0 : Below w.heap.size w (w.alloc (.cells #[.int .i64 P, .slice A n c] 28)) := (Below.refl _ _).alloc (Nat.le_refl _) _
  have k0 : Blk (w.alloc (.cells #[.int .i64 P, .slice A n c] 28)) w.heap.size 28 #[.int .i64 P, .slice A n c] := Blk.new _ _ _
  have hB1 : Below w.heap.size w ((w.alloc (.cells #[.int .i64 P, .slice A n c] 28)).alloc (.cells #[.slice X m cx] 22)) := hB0.alloc (by simp) _
  have k1 : Blk ((w.alloc (.cells #[.int .i64 P, .slice A n c] 28)).alloc (.cells #[.slice X m cx] 22)) w.heap.size 28 #[.int .i64 P, .slice A n c] := k0.alloc _
  have hreg := l10Code_any P A (some ⟨w.heap.size + 1, 0, none⟩) n c 1 1 sq [xs] ((w.alloc (.cells #[.int .i64 P, .slice A n c] 28)).alloc (.cells #[.slice X m cx] 22)) hn (by omega) (ha.below hB1) (rdII_one' (Blk.newAt (by simp)) (hx.below hB1) hcx) (all_one (by rw [hx.lenI]; exact hm))
  by_cases hr0 : codeB P sq [xs] = 0
  · skip
    obtain ⟨HP, hp3, hp2, hd1, hd2, hs0, hms⟩ := codeM_spec2 (codeR_zero2 (codeB_zero hr0))
    have hsl := ha.lenI
    obtain ⟨hx1, hxs0⟩ := hms xs (by simp)
    have hmx : m = pw n := by rw [← hx.lenI, hx1, hsl]
    subst hmx
    rw [hr0] at hreg
    have HR0 := Lib.hid hr0
    have HSL := Lib.hid hsl
    have HS0 := Lib.hid hs0
    have HXS := Lib.hid hxs0
    have hn6 : n ≤ 6 := by omega
    have hn0 : 0 < n := by omega
    have hp : 2 ≤ P := by omega
    clear hr0 hsl hms hx1 hs0 hxs0 hd1 hd2
    go_enter Tryz.func27, Tryz.ntmps27
    go_wp2_with fail
    refine hreg.mono ?_
    rintro e w2 ⟨rfl, hb2⟩
    have hB2 := hB1.trans (hb2.mono hB1.size)
    have k2 := k1.below hb2 k1.lt
    obtain ⟨q0, q1⟩ := k2.two
    clear k0 hB0 k1 hB1 hb2
    go_wp2_with fail
    refine (l10Matrix_any P A n c sq X cx xs _ hp hp2 hn6 hn0 (ha.below hB2) HS0.out (hx.below hB2) HXS.out HP).mono ?_
    rintro e w3 ⟨A3, c3, rfl, hM⟩
    go_wp2
    go_ret2
    exact aMat (by rw [mobR_ok HR0.out, HSL.out]; rfl) (hM.after hB2)
  · obtain ⟨r, hr⟩ : ∃ r, r = codeB P sq [xs] := ⟨_, rfl⟩
    have HR := Lib.hid hr
    have HR0 := Lib.hid hr0
    have b0 : (r != 0) = true := code_ne (by rw [hr]; exact hr0)
    rw [← hr] at hreg
    clear hr hr0
    go_enter Tryz.func27, Tryz.ntmps27
    go_wp2_with fail
    refine hreg.mono ?_
    rintro e w2 ⟨rfl, hb2⟩
    have hB2 := hB1.trans (hb2.mono hB1.size)
    have k2 := k1.below hb2 k1.lt
    obtain ⟨q0, q1⟩ := k2.two
    clear k0 hB0 k1 hB1 hb2
    go_wp2
    go_ret2
    exact noMat (by rw [mobR_bad HR0.out, HR.out]) hB2

end Go.Proofs.YtgfgnpdnppggeaaGreat
