/-
  SubspaceOf, BladeSquare, BladeContains, IsBlade: the functions that a user calls: both sides return the same.
-/
import Derived.Test.YtommppijnccomaaSub2
import Derived.Test.YtommppijnccomaaLawKit2
namespace Go.Proofs.Ytommppijnccomaa
open Go.RowKit

theorem Blk.newAt3 {w : World} {t : TypeId} {cs : Array Value} {g : Nat} (hg : g = w.heap.size) : Blk (w.alloc (.cells cs t)) g t cs := hg ▸ Blk.new w t cs
theorem ret_bi3 {R : Bool × Int} {x : Bool} {y : Int} (h : R = (x, y)) : Ending.returned (.tuple #[.bool x, .int .i64 y]) = .returned (.tuple #[.bool R.1, .int .i64 R.2]) := by rw [h]
theorem ret_ii3 {R : Int × Int} {x y : Int} (h : R = (x, y)) : Ending.returned (.tuple #[.int .i64 x, .int .i64 y]) = .returned (.tuple #[.int .i64 R.1, .int .i64 R.2]) := by rw [h]
theorem noRow3 {w w' : World} {R : List Int × Int} {x : Int} (hR : R = ([], x)) (hB : Below w.heap.size w w') :
    ∃ (A' : Option Addr) (k c' : Nat), Ending.returned (.tuple #[.slice none 0 0, .int .i64 x]) = .returned (.tuple #[.slice A' k c', .int .i64 R.2]) ∧ MkI w w' A' k c' R.1 := by
  subst hR
  exact ⟨none, 0, 0, rfl, Mk.nil hB⟩
theorem aRow3 {w w' : World} {R : List Int × Int} {A : Option Addr} {k c : Nat} {L : List Int} {x : Int} (hR : R = (L, x)) (hM : MkI w w' A k c L) :
    ∃ (A' : Option Addr) (k' c' : Nat), Ending.returned (.tuple #[.slice A k c, .int .i64 x]) = .returned (.tuple #[.slice A' k' c', .int .i64 R.2]) ∧ MkI w w' A' k' c' R.1 := by
  subst hR
  exact ⟨_, _, _, rfl, hM⟩
theorem noMat3 {w w' : World} {R : List (List Int) × Int} {x : Int} (hR : R = ([], x)) (hB : Below w.heap.size w w') :
    ∃ (A' : Option Addr) (k c' : Nat), Ending.returned (.tuple #[.slice none 0 0, .int .i64 x]) = .returned (.tuple #[.slice A' k c', .int .i64 R.2]) ∧ MkII w w' A' k c' R.1 := by
  subst hR
  exact ⟨none, 0, 0, rfl, MkII.nil hB⟩
theorem aMat3 {w w' : World} {R : List (List Int) × Int} {A : Option Addr} {k c : Nat} {L : List (List Int)} {x : Int} (hR : R = (L, x)) (hM : MkII w w' A k c L) :
    ∃ (A' : Option Addr) (k' c' : Nat), Ending.returned (.tuple #[.slice A k c, .int .i64 x]) = .returned (.tuple #[.slice A' k' c', .int .i64 R.2]) ∧ MkII w w' A' k' c' R.1 := by
  subst hR
  exact ⟨_, _, _, rfl, hM⟩
theorem totL_eq3 {L : List (List Int)} {n : Nat} (h : ∀ x ∈ L, x.length = n) : totL L = L.length * n := by
  induction L with
  | nil => simp [totL]
  | cons x r ih =>
    simp only [totL, List.length_cons]
    rw [h x (by simp), ih (fun y hy => h y (by simp [hy])), Nat.add_mul]
    omega
theorem zeroL_first (xs : List Int) : decide (firstL xs < 0) = zeroL xs := by
  unfold firstL zeroL
  have := leadL_le xs
  rw [Bool.eq_iff_iff, decide_eq_true_eq, beq_iff_eq]
  split <;> omega

/-- SubspaceOf. -/
def subR (P : Int) (sq : List Int) (xs : List Int) : List (List Int) × Int := if codeL P sq [xs] = 0 then (subL P sq sq.length xs, 0) else ([], codeL P sq [xs])
theorem subR_ok {P : Int} {sq xs : List Int} (h : codeL P sq [xs] = 0) : subR P sq xs = (subL P sq sq.length xs, 0) := by unfold subR; rw [if_pos h]
theorem subR_bad {P : Int} {sq xs : List Int} (h : ¬ codeL P sq [xs] = 0) : subR P sq xs = ([], codeL P sq [xs]) := by unfold subR; rw [if_neg h]

theorem subR_len (P : Int) (sq xs : List Int) : (∀ x ∈ (subR P sq xs).1, x.length ≤ 1099511627776) ∧ totL (subR P sq xs).1 ≤ 1048576 ∧ (subR P sq xs).1.length ≤ 1048576 := by
  by_cases h : codeL P sq [xs] = 0
  · obtain ⟨HP, hp, _, h1, h6, _, _⟩ := codeM_spec3 (codeL_zero h).1
    rw [subR_ok h]
    have ht := subL_tab hp sq sq.length xs
    have hl := subL_len HP sq sq.length xs
    show (∀ x ∈ subL P sq sq.length xs, x.length ≤ 1099511627776) ∧ totL (subL P sq sq.length xs) ≤ 1048576 ∧ (subL P sq sq.length xs).length ≤ 1048576
    refine ⟨fun x hx => by rw [(ht x hx).1]; omega, ?_, by omega⟩
    rw [totL_eq3 (fun x hx => (ht x hx).1)]
    have : (subL P sq sq.length xs).length * sq.length ≤ 6 * 6 := Nat.mul_le_mul (by omega) h6
    omega
  · rw [subR_bad h]; simp [totL]




/-- BladeSquare. -/
def bsqR (P : Int) (sq : List Int) (xs : List Int) : Int × Int := if codeL P sq [xs] = 0 then ((mulL P sq xs xs).getD 0 0, 0) else (0, codeL P sq [xs])
theorem bsqR_ok {P : Int} {sq xs : List Int} (h : codeL P sq [xs] = 0) : bsqR P sq xs = ((mulL P sq xs xs).getD 0 0, 0) := by unfold bsqR; rw [if_pos h]
theorem bsqR_bad {P : Int} {sq xs : List Int} (h : ¬ codeL P sq [xs] = 0) : bsqR P sq xs = (0, codeL P sq [xs]) := by unfold bsqR; rw [if_neg h]



theorem codeLv_eq {P : Int} {sq xs v : List Int} (h : codeM P sq [xs] = 0) : codeLv P sq xs v = if isVe P sq v then (if isBl P sq sq.length xs then 0 else 5) else 2 := by unfold codeLv; rw [if_pos h]
theorem codeLv_ne {P : Int} {sq xs v : List Int} (h : ¬ codeM P sq [xs] = 0) : codeLv P sq xs v = codeM P sq [xs] := by unfold codeLv; rw [if_neg h]

/-- BladeContains. -/
def contR (P : Int) (sq : List Int) (xs : List Int) (v : List Int) : Bool × Int := if codeLv P sq xs v = 0 then (zeroL (wedgeL P sq (vecTo sq.length v sq.length) xs), 0) else (false, codeLv P sq xs v)
theorem contR_ok {P : Int} {sq xs v : List Int} (h : codeLv P sq xs v = 0) : contR P sq xs v = (zeroL (wedgeL P sq (vecTo sq.length v sq.length) xs), 0) := by unfold contR; rw [if_pos h]
theorem contR_bad {P : Int} {sq xs v : List Int} (h : ¬ codeLv P sq xs v = 0) : contR P sq xs v = (false, codeLv P sq xs v) := by unfold contR; rw [if_neg h]



/-- IsBlade. -/
def isblR (P : Int) (sq : List Int) (xs : List Int) : Bool × Int := if codeM P sq [xs] = 0 then (isBl P sq sq.length xs, 0) else (false, codeM P sq [xs])
theorem isblR_ok {P : Int} {sq xs : List Int} (h : codeM P sq [xs] = 0) : isblR P sq xs = (isBl P sq sq.length xs, 0) := by unfold isblR; rw [if_pos h]
theorem isblR_bad {P : Int} {sq xs : List Int} (h : ¬ codeM P sq [xs] = 0) : isblR P sq xs = (false, codeM P sq [xs]) := by unfold isblR; rw [if_neg h]

set_option maxHeartbeats 3200000 in
set_option maxRecDepth 8000 in
theorem IsBlade_any (P : Int) (A : Option Addr) (n c : Nat) (sq : List Int) (X : Option Addr) (m cx : Nat) (xs : List Int) (w : World) (hn : n ≤ 1048576) (hm : m ≤ 1048576) (ha : Rd w A n (ints sq)) (hx : Rd w X m (ints xs)) (hcx : m ≤ cx) :
    Calls Try.prog 8 #[.agg #[.int .i64 P, .slice A n c], .slice X m cx] w fun e w' => e = .returned (.tuple #[.bool (isblR P sq xs).1, .int .i64 (isblR P sq xs).2]) ∧ Below w.heap.size w w' := by
  have hB0 : Below w.heap.size w (w.alloc (.cells #[.int .i64 P, .slice A n c] 28)) := (Below.refl _ _).alloc (Nat.le_refl _) _
  have k0 : Blk (w.alloc (.cells #[.int .i64 P, .slice A n c] 28)) w.heap.size 28 #[.int .i64 P, .slice A n c] := Blk.new _ _ _
  have hB1 : Below w.heap.size w ((w.alloc (.cells #[.int .i64 P, .slice A n c] 28)).alloc (.cells #[.slice X m cx] 22)) := hB0.alloc (by simp) _
  have k1 : Blk ((w.alloc (.cells #[.int .i64 P, .slice A n c] 28)).alloc (.cells #[.slice X m cx] 22)) w.heap.size 28 #[.int .i64 P, .slice A n c] := k0.alloc _
  have hreg := checkMultis_any P A (some ⟨w.heap.size + 1, 0, none⟩) n c 1 1 sq [xs] ((w.alloc (.cells #[.int .i64 P, .slice A n c] 28)).alloc (.cells #[.slice X m cx] 22)) hn (by omega) (ha.below hB1) (rdII_one' (Blk.newAt3 (by simp)) (hx.below hB1) hcx) (all_one (by rw [hx.lenI]; exact hm))
  by_cases hr0 : codeM P sq [xs] = 0
  · skip
    have hcM := hr0
    rw [hr0] at hreg
    have HR0 := Lib.hid hr0
    clear hr0
    obtain ⟨HP, hp, hp2, hd1, hd2, hs0, hms⟩ := codeM_spec3 hcM
    have hsl := ha.lenI
    obtain ⟨hx1, hxs0⟩ := hms xs (by simp)
    have hmx : m = pw n := by rw [← hx.lenI, hx1, hsl]
    subst hmx
    have HSL := Lib.hid hsl
    have HS0 := Lib.hid hs0
    have HXS := Lib.hid hxs0
    have hn6 : n ≤ 6 := by omega
    have hn0 : 0 < n := by omega
    clear hsl hms hx1 hs0 hxs0 hd1 hd2 hcM
    go_enter Try.func8, Try.ntmps8
    go_wp2_with fail
    refine hreg.mono ?_
    rintro e w2 ⟨rfl, hb2⟩
    have hB2 := hB1.trans (hb2.mono hB1.size)
    have k2 := k1.below hb2 k1.lt
    obtain ⟨q0, q1⟩ := k2.two
    clear k0 hB0 k1 hB1 hb2
    go_wp2_with fail
    refine (isBlade_any P A n c sq X cx xs _ HP hn6 hn0 (ha.below hB2) HS0.out (hx.below hB2) HXS.out).mono ?_
    rintro e w3 ⟨rfl, hb3⟩
    go_wp2
    go_ret2
    exact ⟨ret_bi3 (by rw [isblR_ok HR0.out, HSL.out]), hB2.trans (hb3.mono hB2.size)⟩
  · obtain ⟨r, hr⟩ : ∃ r, r = codeM P sq [xs] := ⟨_, rfl⟩
    have HR := Lib.hid hr
    have HR0 := Lib.hid hr0
    have b0 : (r != 0) = true := code_ne (by rw [hr]; exact hr0)
    rw [← hr] at hreg
    clear hr hr0
    go_enter Try.func8, Try.ntmps8
    go_wp2_with fail
    refine hreg.mono ?_
    rintro e w2 ⟨rfl, hb2⟩
    have hB2 := hB1.trans (hb2.mono hB1.size)
    have k2 := k1.below hb2 k1.lt
    obtain ⟨q0, q1⟩ := k2.two
    clear k0 hB0 k1 hB1 hb2
    go_wp2
    go_ret2
    exact ⟨ret_bi3 (by rw [isblR_bad HR0.out, HR.out]), hB2⟩

set_option maxHeartbeats 3200000 in
set_option maxRecDepth 8000 in
theorem specIsBlade_any (P : Int) (A : Option Addr) (n c : Nat) (sq : List Int) (X : Option Addr) (m cx : Nat) (xs : List Int) (w : World) (hn : n ≤ 1048576) (hm : m ≤ 1048576) (ha : Rd w A n (ints sq)) (hx : Rd w X m (ints xs)) (hcx : m ≤ cx) :
    Calls Try.prog 5 #[.agg #[.int .i64 P, .slice A n c], .slice X m cx] w fun e w' => e = .returned (.tuple #[.bool (isblR P sq xs).1, .int .i64 (isblR P sq xs).2]) ∧ Below w.heap.size w w' := by
  have hB0 : Below w.heap.size w (w.alloc (.cells #[.int .i64 P, .slice A n c] 28)) := (Below.refl _ _).alloc (Nat.le_refl _) _
  have k0 : Blk (w.alloc (.cells #[.int .i64 P, .slice A n c] 28)) w.heap.size 28 #[.int .i64 P, .slice A n c] := Blk.new _ _ _
  have hB1 : Below w.heap.size w ((w.alloc (.cells #[.int .i64 P, .slice A n c] 28)).alloc (.cells #[.slice X m cx] 22)) := hB0.alloc (by simp) _
  have k1 : Blk ((w.alloc (.cells #[.int .i64 P, .slice A n c] 28)).alloc (.cells #[.slice X m cx] 22)) w.heap.size 28 #[.int .i64 P, .slice A n c] := k0.alloc _
  have hreg := l04Code_any P A (some ⟨w.heap.size + 1, 0, none⟩) n c 1 1 sq [xs] ((w.alloc (.cells #[.int .i64 P, .slice A n c] 28)).alloc (.cells #[.slice X m cx] 22)) hn (by omega) (ha.below hB1) (rdII_one' (Blk.newAt3 (by simp)) (hx.below hB1) hcx) (all_one (by rw [hx.lenI]; exact hm))
  by_cases hr0 : codeM P sq [xs] = 0
  · skip
    have hcM := hr0
    rw [hr0] at hreg
    have HR0 := Lib.hid hr0
    clear hr0
    obtain ⟨HP, hp, hp2, hd1, hd2, hs0, hms⟩ := codeM_spec3 hcM
    have hsl := ha.lenI
    obtain ⟨hx1, hxs0⟩ := hms xs (by simp)
    have hmx : m = pw n := by rw [← hx.lenI, hx1, hsl]
    subst hmx
    have HSL := Lib.hid hsl
    have HS0 := Lib.hid hs0
    have HXS := Lib.hid hxs0
    have hn6 : n ≤ 6 := by omega
    have hn0 : 0 < n := by omega
    clear hsl hms hx1 hs0 hxs0 hd1 hd2 hcM
    go_enter Try.func5, Try.ntmps5
    go_wp2_with fail
    refine hreg.mono ?_
    rintro e w2 ⟨rfl, hb2⟩
    have hB2 := hB1.trans (hb2.mono hB1.size)
    have k2 := k1.below hb2 k1.lt
    obtain ⟨q0, q1⟩ := k2.two
    clear k0 hB0 k1 hB1 hb2
    go_wp2_with fail
    refine (l06Is_any P A n c sq X cx xs _ HP hn6 hn0 (ha.below hB2) HS0.out (hx.below hB2) HXS.out).mono ?_
    rintro e w3 ⟨rfl, hb3⟩
    go_wp2
    go_ret2
    exact ⟨ret_bi3 (by rw [isblR_ok HR0.out, HSL.out]), hB2.trans (hb3.mono hB2.size)⟩
  · obtain ⟨r, hr⟩ : ∃ r, r = codeM P sq [xs] := ⟨_, rfl⟩
    have HR := Lib.hid hr
    have HR0 := Lib.hid hr0
    have b0 : (r != 0) = true := code_ne (by rw [hr]; exact hr0)
    rw [← hr] at hreg
    clear hr hr0
    go_enter Try.func5, Try.ntmps5
    go_wp2_with fail
    refine hreg.mono ?_
    rintro e w2 ⟨rfl, hb2⟩
    have hB2 := hB1.trans (hb2.mono hB1.size)
    have k2 := k1.below hb2 k1.lt
    obtain ⟨q0, q1⟩ := k2.two
    clear k0 hB0 k1 hB1 hb2
    go_wp2
    go_ret2
    exact ⟨ret_bi3 (by rw [isblR_bad HR0.out, HR.out]), hB2⟩

end Go.Proofs.Ytommppijnccomaa
