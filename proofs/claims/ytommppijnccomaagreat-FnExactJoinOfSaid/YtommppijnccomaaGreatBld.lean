/-
  SubspaceOf, BladeSquare, BladeContains, IsBlade: the functions that a user calls: both sides return the same.
-/
import Derived.Test.YtommppijnccomaaGreatSub2
import Derived.Test.YtommppijnccomaaGreatLawKit2
namespace Go.Proofs.YtommppijnccomaaGreat
open Go.RowKit

theorem Blk.newAt3 {w : World} {t : TypeId} {cs : Array Value} {g : Nat} (hg : g = w.heap.size) : Blk (w.alloc (.cells cs t)) g t cs := hg ▸ Blk.new w t cs
theorem ret_bi3 {R : Bool × Int} {x : Bool} {y : Int} (h : R = (x, y)) : Ending.returned (.tuple #[.bool x, .int .i64 y]) = .returned (.tuple #[.bool R.1, .int .i64 R.2]) := by rw [h]
theorem ret_ii3 {R : Int × Int} {x y : Int} (h : R = (x, y)) : Ending.returned (.tuple #[.int .i64 x, .int .i64 y]) = .returned (.tuple #[.int .i64 R.1, .int .i64 R.2]) := by rw [h]
theorem noRow3 {w w' : World} {R : List Int × Int} {x : Int} (hR : R = ([], x)) (hB : Below w.heap.size w w') :
    ∃ (A' : Option Addr) (k c' : Nat), Ending.returned (.tuple #[.slice none 0 0, .int .i64 x]) = .returned (.tuple #[.slice A' k c', .int .i64 R.2]) ∧ MkI w w' A' k c' R.1 := by
  subst hR
  exact ⟨none, 0, 0, rfl, Mk.nil hB⟩
theorem aRow3 {w w' : World} {R : List Int × Int} {A : Option Addr} {k c : Nat} {L : List Int} {x : Int} (hR : R = (L, x)) (hM : MkI w w' A k c L) :
    ∃ (A' : Option Addr) (k' c' : Nat), Ending.returned (.tuple #[.slice A k c, .int .i64 x]) = .returned (.tuple #[.slice A' k' c', .int .i64 R.2]) ∧ MkI w w' A' k' c' R.1 := by
  subst hR
  exact ⟨_, _, _, rfl, hM⟩
theorem noMat3 {w w' : World} {R : List (List Int) × Int} {x : Int} (hR : R = ([], x)) (hB : Below w.heap.size w w') :
    ∃ (A' : Option Addr) (k c' : Nat), Ending.returned (.tuple #[.slice none 0 0, .int .i64 x]) = .returned (.tuple #[.slice A' k c', .int .i64 R.2]) ∧ MkII w w' A' k c' R.1 := by
  subst hR
  exact ⟨none, 0, 0, rfl, MkII.nil hB⟩
theorem aMat3 {w w' : World} {R : List (List Int) × Int} {A : Option Addr} {k c : Nat} {L : List (List Int)} {x : Int} (hR : R = (L, x)) (hM : MkII w w' A k c L) :
    ∃ (A' : Option Addr) (k' c' : Nat), Ending.returned (.tuple #[.slice A k c, .int .i64 x]) = .returned (.tuple #[.slice A' k' c', .int .i64 R.2]) ∧ MkII w w' A' k' c' R.1 := by
  subst hR
  exact ⟨_, _, _, rfl, hM⟩
theorem totL_eq3 {L : List (List Int)} {n : Nat} (h : ∀ x ∈ L, x.length = n) : totL L = L.length * n := by
  induction L with
  | nil => simp [totL]
  | cons x r ih =>
    simp only [totL, List.length_cons]
    rw [h x (by simp), ih (fun y hy => h y (by simp [hy])), Nat.add_mul]
    omega
theorem zeroL_first (xs : List Int) : decide (firstL xs < 0) = zeroL xs := by
  unfold firstL zeroL
  have := leadL_le xs
  rw [Bool.eq_iff_iff, decide_eq_true_eq, beq_iff_eq]
  split <;> omega

/-- SubspaceOf. -/
def subR (P : Int) (sq : List Int) (xs : List Int) : List (List Int) × Int := if codeL P sq [xs] = 0 then (subL P sq sq.length xs, 0) else ([], codeL P sq [xs])
theorem subR_ok {P : Int} {sq xs : List Int} (h : codeL P sq [xs] = 0) : subR P sq xs = (subL P sq sq.length xs, 0) := by unfold subR; rw [if_pos h]
theorem subR_bad {P : Int} {sq xs : List Int} (h : ¬ codeL P sq [xs] = 0) : subR P sq xs = ([], codeL P sq [xs]) := by unfold subR; rw [if_neg h]

theorem subR_len (P : Int) (sq xs : List Int) : (∀ x ∈ (subR P sq xs).1, x.length ≤ 1099511627776) ∧ totL (subR P sq xs).1 ≤ 1048576 ∧ (subR P sq xs).1.length ≤ 1048576 := by
  by_cases h : codeL P sq [xs] = 0
  · obtain ⟨HP, hp, _, h1, h6, _, _⟩ := codeM_spec3 (codeL_zero h).1
    rw [subR_ok h]
    have ht := subL_tab hp sq sq.length xs
    have hl := subL_len HP sq sq.length xs
    show (∀ x ∈ subL P sq sq.length xs, x.length ≤ 1099511627776) ∧ totL (subL P sq sq.length xs) ≤ 1048576 ∧ (subL P sq sq.length xs).length ≤ 1048576
    refine ⟨fun x hx => by rw [(ht x hx).1]; omega, ?_, by omega⟩
    rw [totL_eq3 (fun x hx => (ht x hx).1)]
    have : (subL P sq sq.length xs).length * sq.length ≤ 6 * 6 := Nat.mul_le_mul (by omega) h6
    omega
  · rw [subR_bad h]; simp [totL]

set_option maxHeartbeats 3200000 in
set_option maxRecDepth 8000 in
theorem SubspaceOf_any (P : Int) (A : Option Addr) (n c : Nat) (sq : List Int) (X : Option Addr) (m cx : Nat) (xs : List Int) (w : World) (hn : n ≤ 1048576) (hm : m ≤ 1048576) (ha : Rd w A n (ints sq)) (hx : Rd w X m (ints xs)) (hcx : m ≤ cx) :
    Calls Tryz.prog 28 #[.agg #[.int .i64 P, .slice A n c], .slice X m cx] w fun e w' => ∃ (A' : Option Addr) (k c' : Nat), e = .returned (.tuple #[.slice A' k c', .int .i64 (subR P sq xs).2]) ∧ MkII w w' A' k c' (subR P sq xs).1 := by
  have hB0 : Below w.heap.size w (w.alloc (.cells #[.int .i64 P, .slice A n c] 28)) := (Below.refl _ _).alloc (Nat.le_refl _) _
  have k0 : Blk (w.alloc (.cells #[.int .i64 P, .slice A n c] 28)) w.heap.size 28 #[.int .i64 P, .slice A n c] := Blk.new _ _ _
  have hB1 : Below w.heap.size w ((w.alloc (.cells #[.int .i64 P, .slice A n c] 28)).alloc (.cells #[.slice X m cx] 22)) := hB0.alloc (by simp) _
  have k1 : Blk ((w.alloc (.cells #[.int .i64 P, .slice A n c] 28)).alloc (.cells #[.slice X m cx] 22)) w.heap.size 28 #[.int .i64 P, .slice A n c] := k0.alloc _
  have hreg := checkBlades_any P A (some ⟨w.heap.size + 1, 0, none⟩) n c 1 1 sq [xs] ((w.alloc (.cells #[.int .i64 P, .slice A n c] 28)).alloc (.cells #[.slice X m cx] 22)) hn (by omega) (ha.below hB1) (rdII_one' (Blk.newAt3 (by simp)) (hx.below hB1) hcx) (all_one (by rw [hx.lenI]; exact hm))
  by_cases hr0 : codeL P sq [xs] = 0
  · skip
    have hcM := (codeL_zero hr0).1
    rw [hr0] at hreg
    have HR0 := Lib.hid hr0
    clear hr0
    obtain ⟨HP, hp, hp2, hd1, hd2, hs0, hms⟩ := codeM_spec3 hcM
    have hsl := ha.lenI
    obtain ⟨hx1, hxs0⟩ := hms xs (by simp)
    have hmx : m = pw n := by rw [← hx.lenI, hx1, hsl]
    subst hmx
    have HSL := Lib.hid hsl
    have HS0 := Lib.hid hs0
    have HXS := Lib.hid hxs0
    have hn6 : n ≤ 6 := by omega
    have hn0 : 0 < n := by omega
    clear hsl hms hx1 hs0 hxs0 hd1 hd2 hcM
    go_enter Tryz.func28, Tryz.ntmps28
    go_wp2_with fail
    refine hreg.mono ?_
    rintro e w2 ⟨rfl, hb2⟩
    have hB2 := hB1.trans (hb2.mono hB1.size)
    have k2 := k1.below hb2 k1.lt
    obtain ⟨q0, q1⟩ := k2.two
    clear k0 hB0 k1 hB1 hb2
    go_wp2_with fail
    refine (subspace_any P A n c sq X cx xs _ HP hn6 hn0 (ha.below hB2) HS0.out (hx.below hB2) HXS.out).mono ?_
    rintro e w3 ⟨A3, c3, rfl, hM⟩
    go_wp2
    go_ret2
    exact aMat3 (by rw [subR_ok HR0.out, HSL.out]) (hM.after hB2)
  · obtain ⟨r, hr⟩ : ∃ r, r = codeL P sq [xs] := ⟨_, rfl⟩
    have HR := Lib.hid hr
    have HR0 := Lib.hid hr0
    have b0 : (r != 0) = true := code_ne (by rw [hr]; exact hr0)
    rw [← hr] at hreg
    clear hr hr0
    go_enter Tryz.func28, Tryz.ntmps28
    go_wp2_with fail
    refine hreg.mono ?_
    rintro e w2 ⟨rfl, hb2⟩
    have hB2 := hB1.trans (hb2.mono hB1.size)
    have k2 := k1.below hb2 k1.lt
    obtain ⟨q0, q1⟩ := k2.two
    clear k0 hB0 k1 hB1 hb2
    go_wp2
    go_ret2
    exact noMat3 (by rw [subR_bad HR0.out, HR.out]) hB2

set_option maxHeartbeats 3200000 in
set_option maxRecDepth 8000 in
theorem specSubspaceOf_any (P : Int) (A : Option Addr) (n c : Nat) (sq : List Int) (X : Option Addr) (m cx : Nat) (xs : List Int) (w : World) (hn : n ≤ 1048576) (hm : m ≤ 1048576) (ha : Rd w A n (ints sq)) (hx : Rd w X m (ints xs)) (hcx : m ≤ cx) :
    Calls Tryz.prog 27 #[.agg #[.int .i64 P, .slice A n c], .slice X m cx] w fun e w' => ∃ (A' : Option Addr) (k c' : Nat), e = .returned (.tuple #[.slice A' k c', .int .i64 (subR P sq xs).2]) ∧ MkII w w' A' k c' (subR P sq xs).1 := by
  have hB0 : Below w.heap.size w (w.alloc (.cells #[.int .i64 P, .slice A n c] 28)) := (Below.refl _ _).alloc (Nat.le_refl _) _
  have k0 : Blk (w.alloc (.cells #[.int .i64 P, .slice A n c] 28)) w.heap.size 28 #[.int .i64 P, .slice A n c] := Blk.new _ _ _
  have hB1 : Below w.heap.size w ((w.alloc (.cells #[.int .i64 P, .slice A n c] 28)).alloc (.cells #[.slice X m cx] 22)) := hB0.alloc (by simp) _
  have k1 : Blk ((w.alloc (.cells #[.int .i64 P, .slice A n c] 28)).alloc (.cells #[.slice X m cx] 22)) w.heap.size 28 #[.int .i64 P, .slice A n c] := k0.alloc _
  have hreg := l06Code_any P A (some ⟨w.heap.size + 1, 0, none⟩) n c 1 1 sq [xs] ((w.alloc (.cells #[.int .i64 P, .slice A n c] 28)).alloc (.cells #[.slice X m cx] 22)) hn (by omega) (ha.below hB1) (rdII_one' (Blk.newAt3 (by simp)) (hx.below hB1) hcx) (all_one (by rw [hx.lenI]; exact hm))
  by_cases hr0 : codeL P sq [xs] = 0
  · skip
    have hcM := (codeL_zero hr0).1
    rw [hr0] at hreg
    have HR0 := Lib.hid hr0
    clear hr0
    obtain ⟨HP, hp, hp2, hd1, hd2, hs0, hms⟩ := codeM_spec3 hcM
    have hsl := ha.lenI
    obtain ⟨hx1, hxs0⟩ := hms xs (by simp)
    have hmx : m = pw n := by rw [← hx.lenI, hx1, hsl]
    subst hmx
    have HSL := Lib.hid hsl
    have HS0 := Lib.hid hs0
    have HXS := Lib.hid hxs0
    have hn6 : n ≤ 6 := by omega
    have hn0 : 0 < n := by omega
    clear hsl hms hx1 hs0 hxs0 hd1 hd2 hcM
    go_enter Tryz.func27, Tryz.ntmps27
    go_wp2_with fail
    refine hreg.mono ?_
    rintro e w2 ⟨rfl, hb2⟩
    have hB2 := hB1.trans (hb2.mono hB1.size)
    have k2 := k1.below hb2 k1.lt
    obtain ⟨q0, q1⟩ := k2.two
    clear k0 hB0 k1 hB1 hb2
    go_wp2_with fail
    refine (l06Subspace_any P A n c sq X cx xs _ HP hn6 hn0 (ha.below hB2) HS0.out (hx.below hB2) HXS.out).mono ?_
    rintro e w3 ⟨A3, c3, rfl, hM⟩
    go_wp2
    go_ret2
    exact aMat3 (by rw [subR_ok HR0.out, HSL.out]) (hM.after hB2)
  · obtain ⟨r, hr⟩ : ∃ r, r = codeL P sq [xs] := ⟨_, rfl⟩
    have HR := Lib.hid hr
    have HR0 := Lib.hid hr0
    have b0 : (r != 0) = true := code_ne (by rw [hr]; exact hr0)
    rw [← hr] at hreg
    clear hr hr0
    go_enter Tryz.func27, Tryz.ntmps27
    go_wp2_with fail
    refine hreg.mono ?_
    rintro e w2 ⟨rfl, hb2⟩
    have hB2 := hB1.trans (hb2.mono hB1.size)
    have k2 := k1.below hb2 k1.lt
    obtain ⟨q0, q1⟩ := k2.two
    clear k0 hB0 k1 hB1 hb2
    go_wp2
    go_ret2
    exact noMat3 (by rw [subR_bad HR0.out, HR.out]) hB2

set_option maxHeartbeats 1600000 in
set_option maxRecDepth 8000 in
theorem bladeSquare_any (P : Int) (A : Option Addr) (n c : Nat) (sq : List Int) (X : Option Addr) (cx : Nat) (xs : List Int) (w : World) (hp : 2 ≤ P) (hp2 : P ≤ 13) (hn : n ≤ 6) (ha : Rd w A n (ints sq)) (hs : NumsL P sq) (hx : Rd w X (pw n) (ints xs)) (hxs : NumsL P xs) (hcx : pw n ≤ cx) :
    Calls Tryz.prog 61 #[.agg #[.int .i64 P, .slice A n c], .slice X (pw n) cx] w fun e w' => e = .returned (.int .i64 ((mulL P sq xs xs).getD 0 0)) ∧ Below w.heap.size w w' := by
  have HTT : Hid (timesL P sq n [xs, xs] = mulL P sq xs xs) := Lib.hid (timesL_two P sq n xs xs hx.lenI hxs)
  have hB0 : Below w.heap.size w (w.alloc (.cells #[.int .i64 P, .slice A n c] 28)) := (Below.refl _ _).alloc (Nat.le_refl _) _
  have k0 : Blk (w.alloc (.cells #[.int .i64 P, .slice A n c] 28)) w.heap.size 28 #[.int .i64 P, .slice A n c] := Blk.new _ _ _
  have hB1 : Below w.heap.size w ((w.alloc (.cells #[.int .i64 P, .slice A n c] 28)).alloc (.cells #[.slice X (pw n) cx, .slice X (pw n) cx] 22)) := hB0.alloc (by simp) _
  have hcall := times_any P A n c sq (some ⟨w.heap.size + 1, 0, none⟩) 2 2 [xs, xs] ((w.alloc (.cells #[.int .i64 P, .slice A n c] 28)).alloc (.cells #[.slice X (pw n) cx, .slice X (pw n) cx] 22)) hp hp2 hn (by omega) (ha.below hB1) hs (rdII_two (Blk.newAt3 (by simp)) (hx.below hB1) (hx.below hB1) hcx hcx) (all_two ⟨hxs, hx.lenI⟩ ⟨hxs, hx.lenI⟩)
  rw [HTT.out] at hcall
  obtain ⟨L, hL⟩ : ∃ L, L = mulL P sq xs xs := ⟨_, rfl⟩
  rw [← hL] at hcall ⊢
  clear HTT hL
  have hpos := pw_pos n
  go_enter Tryz.func61, Tryz.ntmps61
  go_wp2_with fail
  refine hcall.mono ?_
  rintro e w3 ⟨A3, c3, rfl, hM⟩
  rcases hM.2.form with ⟨_, hz⟩ | ⟨g3, rfl, _, _⟩
  · exact absurd hz (by omega)
  obtain ⟨hcell, _⟩ := mkI_at hM (pw_pos n)
  obtain ⟨v, hv⟩ : ∃ v, v = L.getD 0 0 := ⟨_, rfl⟩
  have HV := Lib.hid hv
  rw [← hv] at hcell
  have HBB := Lib.hid (hB1.trans (hM.b.mono hB1.size))
  clear hv hcall hM
  go_wp2
  go_ret
  exact ⟨ret_int HV.out, HBB.out⟩

/-- BladeSquare. -/
def bsqR (P : Int) (sq : List Int) (xs : List Int) : Int × Int := if codeL P sq [xs] = 0 then ((mulL P sq xs xs).getD 0 0, 0) else (0, codeL P sq [xs])
theorem bsqR_ok {P : Int} {sq xs : List Int} (h : codeL P sq [xs] = 0) : bsqR P sq xs = ((mulL P sq xs xs).getD 0 0, 0) := by unfold bsqR; rw [if_pos h]
theorem bsqR_bad {P : Int} {sq xs : List Int} (h : ¬ codeL P sq [xs] = 0) : bsqR P sq xs = (0, codeL P sq [xs]) := by unfold bsqR; rw [if_neg h]

set_option maxHeartbeats 3200000 in
set_option maxRecDepth 8000 in
theorem BladeSquare_any (P : Int) (A : Option Addr) (n c : Nat) (sq : List Int) (X : Option Addr) (m cx : Nat) (xs : List Int) (w : World) (hn : n ≤ 1048576) (hm : m ≤ 1048576) (ha : Rd w A n (ints sq)) (hx : Rd w X m (ints xs)) (hcx : m ≤ cx) :
    Calls Tryz.prog 22 #[.agg #[.int .i64 P, .slice A n c], .slice X m cx] w fun e w' => e = .returned (.tuple #[.int .i64 (bsqR P sq xs).1, .int .i64 (bsqR P sq xs).2]) ∧ Below w.heap.size w w' := by
  have hB0 : Below w.heap.size w (w.alloc (.cells #[.int .i64 P, .slice A n c] 28)) := (Below.refl _ _).alloc (Nat.le_refl _) _
  have k0 : Blk (w.alloc (.cells #[.int .i64 P, .slice A n c] 28)) w.heap.size 28 #[.int .i64 P, .slice A n c] := Blk.new _ _ _
  have hB1 : Below w.heap.size w ((w.alloc (.cells #[.int .i64 P, .slice A n c] 28)).alloc (.cells #[.slice X m cx] 22)) := hB0.alloc (by simp) _
  have k1 : Blk ((w.alloc (.cells #[.int .i64 P, .slice A n c] 28)).alloc (.cells #[.slice X m cx] 22)) w.heap.size 28 #[.int .i64 P, .slice A n c] := k0.alloc _
  have hreg := checkBlades_any P A (some ⟨w.heap.size + 1, 0, none⟩) n c 1 1 sq [xs] ((w.alloc (.cells #[.int .i64 P, .slice A n c] 28)).alloc (.cells #[.slice X m cx] 22)) hn (by omega) (ha.below hB1) (rdII_one' (Blk.newAt3 (by simp)) (hx.below hB1) hcx) (all_one (by rw [hx.lenI]; exact hm))
  by_cases hr0 : codeL P sq [xs] = 0
  · skip
    have hcM := (codeL_zero hr0).1
    rw [hr0] at hreg
    have HR0 := Lib.hid hr0
    clear hr0
    obtain ⟨HP, hp, hp2, hd1, hd2, hs0, hms⟩ := codeM_spec3 hcM
    have hsl := ha.lenI
    obtain ⟨hx1, hxs0⟩ := hms xs (by simp)
    have hmx : m = pw n := by rw [← hx.lenI, hx1, hsl]
    subst hmx
    have HSL := Lib.hid hsl
    have HS0 := Lib.hid hs0
    have HXS := Lib.hid hxs0
    have hn6 : n ≤ 6 := by omega
    have hn0 : 0 < n := by omega
    clear hsl hms hx1 hs0 hxs0 hd1 hd2 hcM
    go_enter Tryz.func22, Tryz.ntmps22
    go_wp2_with fail
    refine hreg.mono ?_
    rintro e w2 ⟨rfl, hb2⟩
    have hB2 := hB1.trans (hb2.mono hB1.size)
    have k2 := k1.below hb2 k1.lt
    obtain ⟨q0, q1⟩ := k2.two
    clear k0 hB0 k1 hB1 hb2
    have hcall := bladeSquare_any P A n c sq X cx xs w2 hp hp2 hn6 (ha.below hB2) HS0.out (hx.below hB2) HXS.out hcx
    obtain ⟨v, hv⟩ : ∃ v, v = (mulL P sq xs xs).getD 0 0 := ⟨_, rfl⟩
    have HV := Lib.hid hv
    rw [← hv] at hcall
    clear hv
    go_wp2_with fail
    refine hcall.mono ?_
    rintro e w3 ⟨rfl, hb3⟩
    go_wp2
    go_ret2
    exact ⟨ret_ii3 (by rw [bsqR_ok HR0.out, HV.out]), hB2.trans (hb3.mono hB2.size)⟩
  · obtain ⟨r, hr⟩ : ∃ r, r = codeL P sq [xs] := ⟨_, rfl⟩
    have HR := Lib.hid hr
    have HR0 := Lib.hid hr0
    have b0 : (r != 0) = true := code_ne (by rw [hr]; exact hr0)
    rw [← hr] at hreg
    clear hr hr0
    go_enter Tryz.func22, Tryz.ntmps22
    go_wp2_with fail
    refine hreg.mono ?_
    rintro e w2 ⟨rfl, hb2⟩
    have hB2 := hB1.trans (hb2.mono hB1.size)
    have k2 := k1.below hb2 k1.lt
    obtain ⟨q0, q1⟩ := k2.two
    clear k0 hB0 k1 hB1 hb2
    go_wp2
    go_ret2
    exact ⟨ret_ii3 (by rw [bsqR_bad HR0.out, HR.out]), hB2⟩

set_option maxHeartbeats 3200000 in
set_option maxRecDepth 8000 in
theorem specBladeSquare_any (P : Int) (A : Option Addr) (n c : Nat) (sq : List Int) (X : Option Addr) (m cx : Nat) (xs : List Int) (w : World) (hn : n ≤ 1048576) (hm : m ≤ 1048576) (ha : Rd w A n (ints sq)) (hx : Rd w X m (ints xs)) (hcx : m ≤ cx) :
    Calls Tryz.prog 21 #[.agg #[.int .i64 P, .slice A n c], .slice X m cx] w fun e w' => e = .returned (.tuple #[.int .i64 (bsqR P sq xs).1, .int .i64 (bsqR P sq xs).2]) ∧ Below w.heap.size w w' := by
  have hB0 : Below w.heap.size w (w.alloc (.cells #[.int .i64 P, .slice A n c] 28)) := (Below.refl _ _).alloc (Nat.le_refl _) _
  have k0 : Blk (w.alloc (.cells #[.int .i64 P, .slice A n c] 28)) w.heap.size 28 #[.int .i64 P, .slice A n c] := Blk.new _ _ _
  have hB1 : Below w.heap.size w ((w.alloc (.cells #[.int .i64 P, .slice A n c] 28)).alloc (.cells #[.slice X m cx] 22)) := hB0.alloc (by simp) _
  have k1 : Blk ((w.alloc (.cells #[.int .i64 P, .slice A n c] 28)).alloc (.cells #[.slice X m cx] 22)) w.heap.size 28 #[.int .i64 P, .slice A n c] := k0.alloc _
  have hreg := l06Code_any P A (some ⟨w.heap.size + 1, 0, none⟩) n c 1 1 sq [xs] ((w.alloc (.cells #[.int .i64 P, .slice A n c] 28)).alloc (.cells #[.slice X m cx] 22)) hn (by omega) (ha.below hB1) (rdII_one' (Blk.newAt3 (by simp)) (hx.below hB1) hcx) (all_one (by rw [hx.lenI]; exact hm))
  by_cases hr0 : codeL P sq [xs] = 0
  · skip
    have hcM := (codeL_zero hr0).1
    rw [hr0] at hreg
    have HR0 := Lib.hid hr0
    clear hr0
    obtain ⟨HP, hp, hp2, hd1, hd2, hs0, hms⟩ := codeM_spec3 hcM
    have hsl := ha.lenI
    obtain ⟨hx1, hxs0⟩ := hms xs (by simp)
    have hmx : m = pw n := by rw [← hx.lenI, hx1, hsl]
    subst hmx
    have HSL := Lib.hid hsl
    have HS0 := Lib.hid hs0
    have HXS := Lib.hid hxs0
    have hn6 : n ≤ 6 := by omega
    have hn0 : 0 < n := by omega
    clear hsl hms hx1 hs0 hxs0 hd1 hd2 hcM
    go_enter Tryz.func21, Tryz.ntmps21
    go_wp2_with fail
    refine hreg.mono ?_
    rintro e w2 ⟨rfl, hb2⟩
    have hB2 := hB1.trans (hb2.mono hB1.size)
    have k2 := k1.below hb2 k1.lt
    obtain ⟨q0, q1⟩ := k2.two
    clear k0 hB0 k1 hB1 hb2
    have hmul := l04Times_any P A n c sq X cx xs X cx xs w2 hp hp2 hn6 (ha.below hB2) HS0.out (hx.below hB2) HXS.out (hx.below hB2) HXS.out
    go_wp2_with fail
    refine hmul.mono ?_
    rintro e w3 ⟨A3, c3, rfl, hM⟩
    rcases hM.2.form with ⟨_, hz⟩ | ⟨g3, rfl, _, _⟩
    · exact absurd hz (by have := pw_pos n; omega)
    obtain ⟨hcell, _⟩ := mkI_at hM (pw_pos n)
    have hpos : 0 < pw n := pw_pos n
    have HMM : Hid (prodL P sq (fun _ _ => true) xs xs = mulL P sq xs xs) := Lib.hid rfl
    obtain ⟨v, hv⟩ : ∃ v, v = (mulL P sq xs xs).getD 0 0 := ⟨_, rfl⟩
    have HV := Lib.hid hv
    rw [HMM.out, ← hv] at hcell
    clear hv
    go_wp2
    go_ret2
    exact ⟨ret_ii3 (by rw [bsqR_ok HR0.out, HV.out]), hB2.trans (hM.b.mono hB2.size)⟩
  · obtain ⟨r, hr⟩ : ∃ r, r = codeL P sq [xs] := ⟨_, rfl⟩
    have HR := Lib.hid hr
    have HR0 := Lib.hid hr0
    have b0 : (r != 0) = true := code_ne (by rw [hr]; exact hr0)
    rw [← hr] at hreg
    clear hr hr0
    go_enter Tryz.func21, Tryz.ntmps21
    go_wp2_with fail
    refine hreg.mono ?_
    rintro e w2 ⟨rfl, hb2⟩
    have hB2 := hB1.trans (hb2.mono hB1.size)
    have k2 := k1.below hb2 k1.lt
    obtain ⟨q0, q1⟩ := k2.two
    clear k0 hB0 k1 hB1 hb2
    go_wp2
    go_ret2
    exact ⟨ret_ii3 (by rw [bsqR_bad HR0.out, HR.out]), hB2⟩

theorem codeLv_eq {P : Int} {sq xs v : List Int} (h : codeM P sq [xs] = 0) : codeLv P sq xs v = if isVe P sq v then (if isBl P sq sq.length xs then 0 else 5) else 2 := by unfold codeLv; rw [if_pos h]
theorem codeLv_ne {P : Int} {sq xs v : List Int} (h : ¬ codeM P sq [xs] = 0) : codeLv P sq xs v = codeM P sq [xs] := by unfold codeLv; rw [if_neg h]
set_option maxHeartbeats 3200000 in
set_option maxRecDepth 8000 in
theorem l06Vector_any (P : Int) (A : Option Addr) (n c : Nat) (sq : List Int) (X : Option Addr) (m cx : Nat) (xs : List Int) (Y : Option Addr) (l cy : Nat) (ys : List Int) (w : World) (hn : n ≤ 1048576) (hm : m ≤ 1048576) (hl : l ≤ 1048576) (ha : Rd w A n (ints sq)) (hx : Rd w X m (ints xs)) (hcx : m ≤ cx) (hy : Rd w Y l (ints ys)) (_hcy : l ≤ cy) :
    Calls Tryz.prog 48 #[.agg #[.int .i64 P, .slice A n c], .slice X m cx, .slice Y l cy] w fun e w' => e = .returned (.int .i64 (codeLv P sq xs ys)) ∧ Below w.heap.size w w' := by
  have hB0 : Below w.heap.size w (w.alloc (.cells #[.int .i64 P, .slice A n c] 28)) := (Below.refl _ _).alloc (Nat.le_refl _) _
  have k0 : Blk (w.alloc (.cells #[.int .i64 P, .slice A n c] 28)) w.heap.size 28 #[.int .i64 P, .slice A n c] := Blk.new _ _ _
  have hB1 : Below w.heap.size w ((w.alloc (.cells #[.int .i64 P, .slice A n c] 28)).alloc (.cells #[.slice X m cx] 22)) := hB0.alloc (by simp) _
  have k1 : Blk ((w.alloc (.cells #[.int .i64 P, .slice A n c] 28)).alloc (.cells #[.slice X m cx] 22)) w.heap.size 28 #[.int .i64 P, .slice A n c] := k0.alloc _
  have hreg := l04Code_any P A (some ⟨w.heap.size + 1, 0, none⟩) n c 1 1 sq [xs] ((w.alloc (.cells #[.int .i64 P, .slice A n c] 28)).alloc (.cells #[.slice X m cx] 22)) hn (by omega) (ha.below hB1) (rdII_one' (Blk.newAt3 (by simp)) (hx.below hB1) hcx) (all_one (by rw [hx.lenI]; exact hm))
  by_cases hcM : codeM P sq [xs] = 0
  · have HCV := Lib.hid (codeLv_eq (v := ys) hcM)
    rw [hcM] at hreg
    obtain ⟨HP, hp, hp2, hd1, hd2, hs0, hms⟩ := codeM_spec3 hcM
    have hsl := ha.lenI
    obtain ⟨hx1, hxs0⟩ := hms xs (by simp)
    have hmx : m = pw n := by rw [← hx.lenI, hx1, hsl]
    subst hmx
    have HSL := Lib.hid hsl
    have HS0 := Lib.hid hs0
    have HXS := Lib.hid hxs0
    have hn6 : n ≤ 6 := by omega
    have hn0 : 0 < n := by omega
    clear hms hx1 hs0 hxs0 hd1 hd2
    clear hcM
    cases hve : isVe P sq ys
    · have HVE := Lib.hid hve
      have hvec := fun w' (hb : Below w.heap.size w w') => l03Vector_any P A Y n c l cy sq ys w' hn hsl hl (by omega) hp2 (hy.below hb)
      rw [hve] at hvec
      clear hve hsl
      go_enter Tryz.func48, Tryz.ntmps48
      go_wp2_with fail
      refine hreg.mono ?_
      rintro e w2 ⟨rfl, hb2⟩
      have hB2 := hB1.trans (hb2.mono hB1.size)
      have k2 := k1.below hb2 k1.lt
      obtain ⟨q0, q1⟩ := k2.two
      clear k0 hB0 k1 hB1 hb2
      go_wp2_with fail
      refine (hvec _ hB2).mono ?_
      rintro e w3 ⟨rfl, hb3⟩
      go_wp2
      go_ret
      exact ⟨ret_int (by rw [HCV.out, HVE.out]; rfl), hB2.trans (hb3.mono hB2.size)⟩
    · have HVE := Lib.hid hve
      have hvec := fun w' (hb : Below w.heap.size w w') => l03Vector_any P A Y n c l cy sq ys w' hn hsl hl (by omega) hp2 (hy.below hb)
      rw [hve] at hvec
      have hbl := fun w' (hb : Below w.heap.size w w') => l06Is_any P A n c sq X cx xs w' HP hn6 hn0 (ha.below hb) HS0.out (hx.below hb) HXS.out
      cases hbb : isBl P sq n xs
      all_goals
        have HBB := Lib.hid hbb
        rw [hbb] at hbl
        clear hve hsl hbb
        go_enter Tryz.func48, Tryz.ntmps48
        go_wp2_with fail
        refine hreg.mono ?_
        rintro e w2 ⟨rfl, hb2⟩
        have hB2 := hB1.trans (hb2.mono hB1.size)
        have k2 := k1.below hb2 k1.lt
        obtain ⟨q0, q1⟩ := k2.two
        clear k0 hB0 k1 hB1 hb2
        go_wp2_with fail
        refine (hvec _ hB2).mono ?_
        rintro e w3 ⟨rfl, hb3⟩
        have hB3 := hB2.trans (hb3.mono hB2.size)
        have k3 := k2.below hb3 k2.lt
        obtain ⟨q0, q1⟩ := k3.two
        clear k2 hB2 hb3 hvec
        go_wp2_with fail
        refine (hbl _ hB3).mono ?_
        rintro e w4 ⟨rfl, hb4⟩
        go_wp2
        go_ret
        exact ⟨ret_int (by rw [HCV.out, HVE.out, HSL.out, HBB.out]; rfl), hB3.trans (hb4.mono hB3.size)⟩
  · have HCN := Lib.hid (codeLv_ne (v := ys) hcM)
    obtain ⟨r, hr⟩ : ∃ r, r = codeM P sq [xs] := ⟨_, rfl⟩
    have HR := Lib.hid hr
    have b0 : (r == 0) = false := by rw [hr]; simpa using hcM
    rw [← hr] at hreg
    clear hr hcM
    go_enter Tryz.func48, Tryz.ntmps48
    go_wp2_with fail
    refine hreg.mono ?_
    rintro e w2 ⟨rfl, hb2⟩
    have hB2 := hB1.trans (hb2.mono hB1.size)
    have k2 := k1.below hb2 k1.lt
    obtain ⟨q0, q1⟩ := k2.two
    clear k0 hB0 k1 hB1 hb2
    go_wp2
    go_ret
    exact ⟨ret_int (by rw [HCN.out, HR.out]), hB2⟩

/-- BladeContains. -/
def contR (P : Int) (sq : List Int) (xs : List Int) (v : List Int) : Bool × Int := if codeLv P sq xs v = 0 then (zeroL (wedgeL P sq (vecTo sq.length v sq.length) xs), 0) else (false, codeLv P sq xs v)
theorem contR_ok {P : Int} {sq xs v : List Int} (h : codeLv P sq xs v = 0) : contR P sq xs v = (zeroL (wedgeL P sq (vecTo sq.length v sq.length) xs), 0) := by unfold contR; rw [if_pos h]
theorem contR_bad {P : Int} {sq xs v : List Int} (h : ¬ codeLv P sq xs v = 0) : contR P sq xs v = (false, codeLv P sq xs v) := by unfold contR; rw [if_neg h]

set_option maxHeartbeats 3200000 in
set_option maxRecDepth 8000 in
theorem specBladeContains_any (P : Int) (A : Option Addr) (n c : Nat) (sq : List Int) (X : Option Addr) (m cx : Nat) (xs : List Int) (Y : Option Addr) (l cy : Nat) (ys : List Int) (w : World) (hn : n ≤ 1048576) (hm : m ≤ 1048576) (hl : l ≤ 1048576) (ha : Rd w A n (ints sq)) (hx : Rd w X m (ints xs)) (hcx : m ≤ cx) (hy : Rd w Y l (ints ys)) (hcy : l ≤ cy) :
    Calls Tryz.prog 15 #[.agg #[.int .i64 P, .slice A n c], .slice X m cx, .slice Y l cy] w fun e w' => e = .returned (.tuple #[.bool (contR P sq xs ys).1, .int .i64 (contR P sq xs ys).2]) ∧ Below w.heap.size w w' := by
  have hB0 : Below w.heap.size w (w.alloc (.cells #[.int .i64 P, .slice A n c] 28)) := (Below.refl _ _).alloc (Nat.le_refl _) _
  have k0 : Blk (w.alloc (.cells #[.int .i64 P, .slice A n c] 28)) w.heap.size 28 #[.int .i64 P, .slice A n c] := Blk.new _ _ _
  have hB1 := hB0
  have k1 := k0
  have hreg := l06Vector_any P A n c sq X m cx xs Y l cy ys (w.alloc (.cells #[.int .i64 P, .slice A n c] 28)) hn hm hl (ha.below hB1) (hx.below hB1) hcx (hy.below hB1) hcy
  by_cases hr0 : codeLv P sq xs ys = 0
  · skip
    obtain ⟨hcM, hve, hbl0⟩ := codeLv_zero hr0
    obtain ⟨hly0, hys0⟩ := isVe_spec3 hve
    have hly : n = l := by rw [← hy.lenI, hly0, ha.lenI]
    subst hly
    have HYS := Lib.hid hys0
    clear hve hbl0 hly0 hys0
    rw [hr0] at hreg
    have HR0 := Lib.hid hr0
    clear hr0
    obtain ⟨HP, hp, hp2, hd1, hd2, hs0, hms⟩ := codeM_spec3 hcM
    have hsl := ha.lenI
    obtain ⟨hx1, hxs0⟩ := hms xs (by simp)
    have hmx : m = pw n := by rw [← hx.lenI, hx1, hsl]
    subst hmx
    have HSL := Lib.hid hsl
    have HS0 := Lib.hid hs0
    have HXS := Lib.hid hxs0
    have hn6 : n ≤ 6 := by omega
    have hn0 : 0 < n := by omega
    clear hsl hms hx1 hs0 hxs0 hd1 hd2 hcM
    go_enter Tryz.func15, Tryz.ntmps15
    go_wp2_with fail
    refine hreg.mono ?_
    rintro e w2 ⟨rfl, hb2⟩
    have hB2 := hB1.trans (hb2.mono hB1.size)
    have k2 := k1.below hb2 k1.lt
    obtain ⟨q0, q1⟩ := k2.two
    clear k0 hB0 k1 hB1 hb2
    have hpwl : pw n ≤ 64 := pw_le hn6
    have HA := Lib.hid (ha.below hB2)
    have HX := Lib.hid (hx.below hB2)
    have HY := Lib.hid (hy.below hB2)
    have HOK : Hid (contR P sq xs ys = (zeroL (wedgeL P sq (vecTo n ys n) xs), 0)) := Lib.hid (by rw [contR_ok HR0.out, HSL.out])
    have hfz := zeroL_first (wedgeL P sq (vecTo n ys n) xs)
    obtain ⟨ff, hff⟩ : ∃ ff, ff = firstL (wedgeL P sq (vecTo n ys n) xs) := ⟨_, rfl⟩
    have HFF := Lib.hid hff.symm
    rw [← hff] at hfz
    clear hff
    have HFZ := Lib.hid hfz
    clear hfz
    go_wp2
    refine wp_obs 10 [[], [], [], [1, 2], [], [0, 1, 2, 3, 4], [0, 1, 2, 3, 4, 5], [0, 1, 2, 3, 4, 5, 6], [0, 1, 2, 3, 4, 5, 6, 7], []] [VIs (.agg #[.int .i64 P, .slice A n c]), VIs (.agg #[.int .i64 P, .slice A n c]), VIs (.slice Y n cy), VSl w2 (pw n) (vecTo n ys n), VIs (.slice X (pw n) cx), VSl w2 (pw n) (wedgeL P sq (vecTo n ys n) xs), VIs (.int .i64 (ff)), VIs (.bool (decide (ff < 0))), VIs (.bool (decide (ff < 0))), VIs (.int .i64 0)] (fun w' => Blk w' w.heap.size 28 #[.int .i64 P, .slice A n c] ∧ Below w2.heap.size w2 w') (by kernel_rfl) (by kernel_rfl) (fun _ _ h hb => ⟨h.1.below hb h.1.lt, h.2.trans (hb.mono h.2.size)⟩) (⟨k2.drew, (Below.refl _ _).drew⟩) (fun x => ?_)
    refine obs_step (Eq.trans (by simp only [List.getElem?_toArray, List.getElem?_cons_zero]; exact rfl) rfl) rfl (fun w' hS hV K hK => ?_) ?_
    · obtain ⟨q0, q1⟩ := hS.1.two
      go_simp
      exact hK.out _ _ _ rfl rfl rfl (Below.refl _ _)
    simp only [List.setIfInBounds_toArray, List.set_cons_zero, List.set_cons_succ]
    refine obs_step (Eq.trans (by simp only [List.getElem?_toArray, List.getElem?_cons_succ, List.getElem?_cons_zero]; exact rfl) rfl) rfl (fun w' hS hV K hK => ?_) ?_
    · obtain ⟨q0, q1⟩ := hS.1.two
      go_simp
      exact hK.out _ _ _ rfl rfl rfl (Below.refl _ _)
    simp only [List.setIfInBounds_toArray, List.set_cons_zero, List.set_cons_succ]
    refine obs_step (Eq.trans (by simp only [List.getElem?_toArray, List.getElem?_cons_succ, List.getElem?_cons_zero]; exact rfl) rfl) rfl (fun w' hS hV K hK => ?_) ?_
    · obtain ⟨q0, q1⟩ := hS.1.two
      go_simp
      exact hK.out _ _ _ rfl rfl rfl (Below.refl _ _)
    simp only [List.setIfInBounds_toArray, List.set_cons_zero, List.set_cons_succ]
    refine obs_step (Eq.trans (by simp only [List.getElem?_toArray, List.getElem?_cons_succ, List.getElem?_cons_zero]; exact rfl) rfl) rfl (fun w' hS hV K hK => ?_) ?_
    · have e1 : x 1 = (.agg #[.int .i64 P, .slice A n c]) := hV 1 (by decide)
      have e2 : x 2 = (.slice Y n cy) := hV 2 (by decide)
      obtain ⟨q0, q1⟩ := hS.1.two
      go_simp
      refine (l04Vector_any P A n c _ _ ys _ (by omega) (HY.out.below hS.2)).mono ?_
      rintro e v1 ⟨A2, c2, rfl, hM⟩
      exact hK.out _ _ _ rfl rfl ⟨_, _, rfl, hM.after hS.2⟩ hM.b
    simp only [List.setIfInBounds_toArray, List.set_cons_zero, List.set_cons_succ]
    refine obs_step (Eq.trans (by simp only [List.getElem?_toArray, List.getElem?_cons_succ, List.getElem?_cons_zero]; exact rfl) rfl) rfl (fun w' hS hV K hK => ?_) ?_
    · obtain ⟨q0, q1⟩ := hS.1.two
      go_simp
      exact hK.out _ _ _ rfl rfl rfl (Below.refl _ _)
    simp only [List.setIfInBounds_toArray, List.set_cons_zero, List.set_cons_succ]
    refine obs_step (Eq.trans (by simp only [List.getElem?_toArray, List.getElem?_cons_succ, List.getElem?_cons_zero]; exact rfl) rfl) rfl (fun w' hS hV K hK => ?_) ?_
    · have e0 : x 0 = (.agg #[.int .i64 P, .slice A n c]) := hV 0 (by decide)
      have e1 : x 1 = (.agg #[.int .i64 P, .slice A n c]) := hV 1 (by decide)
      have e2 : x 2 = (.slice Y n cy) := hV 2 (by decide)
      obtain ⟨A3, c3, e3, h3⟩ := hV 3 (by decide)
      have e4 : x 4 = (.slice X (pw n) cx) := hV 4 (by decide)
      obtain ⟨q0, q1⟩ := hS.1.two
      go_simp
      refine (l05Wedge_any P A n c sq _ _ (vecTo n ys n) _ _ xs _ hp hp2 hn6 (HA.out.below hS.2) HS0.out h3.rd (vecTo_nums (by omega) n _ HYS.out n) (HX.out.below hS.2) HXS.out).mono ?_
      rintro e v1 ⟨A2, c2, rfl, hM⟩
      exact hK.out _ _ _ rfl rfl ⟨_, _, rfl, hM.after hS.2⟩ hM.b
    simp only [List.setIfInBounds_toArray, List.set_cons_zero, List.set_cons_succ]
    refine obs_step (Eq.trans (by simp only [List.getElem?_toArray, List.getElem?_cons_succ, List.getElem?_cons_zero]; exact rfl) rfl) rfl (fun w' hS hV K hK => ?_) ?_
    · have e0 : x 0 = (.agg #[.int .i64 P, .slice A n c]) := hV 0 (by decide)
      have e1 : x 1 = (.agg #[.int .i64 P, .slice A n c]) := hV 1 (by decide)
      have e2 : x 2 = (.slice Y n cy) := hV 2 (by decide)
      obtain ⟨A3, c3, e3, h3⟩ := hV 3 (by decide)
      have e4 : x 4 = (.slice X (pw n) cx) := hV 4 (by decide)
      obtain ⟨A5, c5, e5, h5⟩ := hV 5 (by decide)
      obtain ⟨q0, q1⟩ := hS.1.two
      go_simp
      refine (l02First_any _ _ _ _ _ (by omega) h5.rd).mono ?_
      rw [HFF.out]
      rintro e v1 ⟨rfl, rfl⟩
      exact hK.out _ _ _ rfl rfl rfl (Below.refl _ _)
    simp only [List.setIfInBounds_toArray, List.set_cons_zero, List.set_cons_succ]
    refine obs_step (Eq.trans (by simp only [List.getElem?_toArray, List.getElem?_cons_succ, List.getElem?_cons_zero]; exact rfl) rfl) rfl (fun w' hS hV K hK => ?_) ?_
    · have e0 : x 0 = (.agg #[.int .i64 P, .slice A n c]) := hV 0 (by decide)
      have e1 : x 1 = (.agg #[.int .i64 P, .slice A n c]) := hV 1 (by decide)
      have e2 : x 2 = (.slice Y n cy) := hV 2 (by decide)
      obtain ⟨A3, c3, e3, h3⟩ := hV 3 (by decide)
      have e4 : x 4 = (.slice X (pw n) cx) := hV 4 (by decide)
      obtain ⟨A5, c5, e5, h5⟩ := hV 5 (by decide)
      have e6 : x 6 = (.int .i64 (ff)) := hV 6 (by decide)
      obtain ⟨q0, q1⟩ := hS.1.two
      go_simp
      exact hK.out _ _ _ rfl rfl rfl (Below.refl _ _)
    simp only [List.setIfInBounds_toArray, List.set_cons_zero, List.set_cons_succ]
    refine obs_step (Eq.trans (by simp only [List.getElem?_toArray, List.getElem?_cons_succ, List.getElem?_cons_zero]; exact rfl) rfl) rfl (fun w' hS hV K hK => ?_) ?_
    · have e0 : x 0 = (.agg #[.int .i64 P, .slice A n c]) := hV 0 (by decide)
      have e1 : x 1 = (.agg #[.int .i64 P, .slice A n c]) := hV 1 (by decide)
      have e2 : x 2 = (.slice Y n cy) := hV 2 (by decide)
      obtain ⟨A3, c3, e3, h3⟩ := hV 3 (by decide)
      have e4 : x 4 = (.slice X (pw n) cx) := hV 4 (by decide)
      obtain ⟨A5, c5, e5, h5⟩ := hV 5 (by decide)
      have e6 : x 6 = (.int .i64 (ff)) := hV 6 (by decide)
      have e7 : x 7 = (.bool (decide (ff < 0))) := hV 7 (by decide)
      obtain ⟨q0, q1⟩ := hS.1.two
      go_simp
      exact hK.out _ _ _ rfl rfl rfl (Below.refl _ _)
    simp only [List.setIfInBounds_toArray, List.set_cons_zero, List.set_cons_succ]
    refine obs_step (Eq.trans (by simp only [List.getElem?_toArray, List.getElem?_cons_succ, List.getElem?_cons_zero]; exact rfl) rfl) rfl (fun w' hS hV K hK => ?_) ?_
    · obtain ⟨q0, q1⟩ := hS.1.two
      go_simp
      exact hK.out _ _ _ rfl rfl rfl (Below.refl _ _)
    simp only [List.setIfInBounds_toArray, List.set_cons_zero, List.set_cons_succ]
    refine fun w' hS hV => ?_
    have e0 : x 0 = (.agg #[.int .i64 P, .slice A n c]) := hV 0 (by decide)
    have e1 : x 1 = (.agg #[.int .i64 P, .slice A n c]) := hV 1 (by decide)
    have e2 : x 2 = (.slice Y n cy) := hV 2 (by decide)
    obtain ⟨A3, c3, e3, h3⟩ := hV 3 (by decide)
    have e4 : x 4 = (.slice X (pw n) cx) := hV 4 (by decide)
    obtain ⟨A5, c5, e5, h5⟩ := hV 5 (by decide)
    have e6 : x 6 = (.int .i64 (ff)) := hV 6 (by decide)
    have e7 : x 7 = (.bool (decide (ff < 0))) := hV 7 (by decide)
    have e8 : x 8 = (.bool (decide (ff < 0))) := hV 8 (by decide)
    have e9 : x 9 = (.int .i64 0) := hV 9 (by decide)
    simp only [e0, e1, e2, e3, e4, e5, e6, e7, e8, e9]
    clear e0 e1 e2 e3 e4 e5 e6 e7 e8 e9
    refine wpAny_done (by kernel_rfl) ?_ _
    go_wp2
    go_ret2
    exact ⟨ret_bi3 (by rw [HOK.out, ← HFZ.out]), hB2.trans (hS.2.mono hB2.size)⟩
  · obtain ⟨r, hr⟩ : ∃ r, r = codeLv P sq xs ys := ⟨_, rfl⟩
    have HR := Lib.hid hr
    have HR0 := Lib.hid hr0
    have b0 : (r != 0) = true := code_ne (by rw [hr]; exact hr0)
    rw [← hr] at hreg
    clear hr hr0
    go_enter Tryz.func15, Tryz.ntmps15
    go_wp2_with fail
    refine hreg.mono ?_
    rintro e w2 ⟨rfl, hb2⟩
    have hB2 := hB1.trans (hb2.mono hB1.size)
    have k2 := k1.below hb2 k1.lt
    obtain ⟨q0, q1⟩ := k2.two
    clear k0 hB0 k1 hB1 hb2
    go_wp2
    go_ret2
    exact ⟨ret_bi3 (by rw [contR_bad HR0.out, HR.out]), hB2⟩

set_option maxHeartbeats 3200000 in
set_option maxRecDepth 8000 in
theorem BladeContains_any (P : Int) (A : Option Addr) (n c : Nat) (sq : List Int) (X : Option Addr) (m cx : Nat) (xs : List Int) (Y : Option Addr) (l cy : Nat) (ys : List Int) (w : World) (hn : n ≤ 1048576) (hm : m ≤ 1048576) (hl : l ≤ 1048576) (ha : Rd w A n (ints sq)) (hx : Rd w X m (ints xs)) (hcx : m ≤ cx) (hy : Rd w Y l (ints ys)) (hcy : l ≤ cy) :
    Calls Tryz.prog 18 #[.agg #[.int .i64 P, .slice A n c], .slice X m cx, .slice Y l cy] w fun e w' => e = .returned (.tuple #[.bool (contR P sq xs ys).1, .int .i64 (contR P sq xs ys).2]) ∧ Below w.heap.size w w' := by
  have hB0 : Below w.heap.size w (w.alloc (.cells #[.int .i64 P, .slice A n c] 28)) := (Below.refl _ _).alloc (Nat.le_refl _) _
  have k0 : Blk (w.alloc (.cells #[.int .i64 P, .slice A n c] 28)) w.heap.size 28 #[.int .i64 P, .slice A n c] := Blk.new _ _ _
  have hB1 : Below w.heap.size w ((w.alloc (.cells #[.int .i64 P, .slice A n c] 28)).alloc (.cells #[.slice X m cx] 22)) := hB0.alloc (by simp) _
  have k1 : Blk ((w.alloc (.cells #[.int .i64 P, .slice A n c] 28)).alloc (.cells #[.slice X m cx] 22)) w.heap.size 28 #[.int .i64 P, .slice A n c] := k0.alloc _
  have hreg := checkMultis_any P A (some ⟨w.heap.size + 1, 0, none⟩) n c 1 1 sq [xs] ((w.alloc (.cells #[.int .i64 P, .slice A n c] 28)).alloc (.cells #[.slice X m cx] 22)) hn (by omega) (ha.below hB1) (rdII_one' (Blk.newAt3 (by simp)) (hx.below hB1) hcx) (all_one (by rw [hx.lenI]; exact hm))
  by_cases hcM : codeM P sq [xs] = 0
  · have HCV := Lib.hid (codeLv_eq (v := ys) hcM)
    rw [hcM] at hreg
    obtain ⟨HP, hp, hp2, hd1, hd2, hs0, hms⟩ := codeM_spec3 hcM
    have hsl := ha.lenI
    obtain ⟨hx1, hxs0⟩ := hms xs (by simp)
    have hmx : m = pw n := by rw [← hx.lenI, hx1, hsl]
    subst hmx
    have HSL := Lib.hid hsl
    have HS0 := Lib.hid hs0
    have HXS := Lib.hid hxs0
    have hn6 : n ≤ 6 := by omega
    have hn0 : 0 < n := by omega
    clear hms hx1 hs0 hxs0 hd1 hd2
    clear hcM
    have hvec := fun w' (hb : Below w.heap.size w w') => isVector_any P A Y n c l cy sq ys w' hn hsl hl (by omega) hp2 (hy.below hb)
    cases hve : isVe P sq ys
    · have HC5 : Hid (¬ codeLv P sq xs ys = 0 ∧ codeLv P sq xs ys = 2) := Lib.hid (by rw [HCV.out, hve]; simp)
      rw [hve] at hvec
      clear hve hsl
      go_enter Tryz.func18, Tryz.ntmps18
      go_wp2_with fail
      refine hreg.mono ?_
      rintro e w2 ⟨rfl, hb2⟩
      have hB2 := hB1.trans (hb2.mono hB1.size)
      have k2 := k1.below hb2 k1.lt
      obtain ⟨q0, q1⟩ := k2.two
      clear k0 hB0 k1 hB1 hb2
      go_wp2_with fail
      refine (hvec _ hB2).mono ?_
      rintro e w3 ⟨rfl, hb3⟩
      go_wp2
      go_ret2
      exact ⟨ret_bi3 (by rw [contR_bad HC5.out.1, HC5.out.2]), hB2.trans (hb3.mono hB2.size)⟩
    · obtain ⟨hly0, hys0⟩ := isVe_spec3 hve
      have hly : n = l := by rw [← hy.lenI, hly0, hsl]
      subst hly
      have HYS := Lib.hid hys0
      have hbl := fun w' (hb : Below w.heap.size w w') => isBlade_any P A n c sq X cx xs w' HP hn6 hn0 (ha.below hb) HS0.out (hx.below hb) HXS.out
      have HVE := Lib.hid hve
      rw [hve] at hvec
      clear hve hsl hly0 hys0
      cases hbb : isBl P sq n xs
      · have HC5 : Hid (¬ codeLv P sq xs ys = 0 ∧ codeLv P sq xs ys = 5) := Lib.hid (by rw [HCV.out, HVE.out, HSL.out, hbb]; simp)
        rw [hbb] at hbl
        clear hbb
        go_enter Tryz.func18, Tryz.ntmps18
        go_wp2_with fail
        refine hreg.mono ?_
        rintro e w2 ⟨rfl, hb2⟩
        have hB2 := hB1.trans (hb2.mono hB1.size)
        have k2 := k1.below hb2 k1.lt
        obtain ⟨q0, q1⟩ := k2.two
        clear k0 hB0 k1 hB1 hb2
        go_wp2_with fail
        refine (hvec _ hB2).mono ?_
        rintro e w3 ⟨rfl, hb3⟩
        have hB3 := hB2.trans (hb3.mono hB2.size)
        have k3 := k2.below hb3 k2.lt
        obtain ⟨q0, q1⟩ := k3.two
        clear k2 hB2 hb3 hvec
        go_wp2_with fail
        refine (hbl _ hB3).mono ?_
        rintro e w4 ⟨rfl, hb4⟩
        go_wp2
        go_ret2
        exact ⟨ret_bi3 (by rw [contR_bad HC5.out.1, HC5.out.2]), hB3.trans (hb4.mono hB3.size)⟩
      · have HR0 : Hid (codeLv P sq xs ys = 0) := Lib.hid (by rw [HCV.out, HVE.out, HSL.out, hbb]; simp)
        rw [hbb] at hbl
        clear hbb
        go_enter Tryz.func18, Tryz.ntmps18
        go_wp2_with fail
        refine hreg.mono ?_
        rintro e w2 ⟨rfl, hb2⟩
        have hB2 := hB1.trans (hb2.mono hB1.size)
        have k2 := k1.below hb2 k1.lt
        obtain ⟨q0, q1⟩ := k2.two
        clear k0 hB0 k1 hB1 hb2
        go_wp2_with fail
        refine (hvec _ hB2).mono ?_
        rintro e w3 ⟨rfl, hb3⟩
        have hB3 := hB2.trans (hb3.mono hB2.size)
        have k3 := k2.below hb3 k2.lt
        obtain ⟨q0, q1⟩ := k3.two
        clear k2 hB2 hb3 hvec
        go_wp2_with fail
        refine (hbl _ hB3).mono ?_
        rintro e w4 ⟨rfl, hb4⟩
        have hB4 := hB3.trans (hb4.mono hB3.size)
        have k4 := k3.below hb4 k3.lt
        obtain ⟨q0, q1⟩ := k4.two
        clear k3 hB3 hb4 hbl
        have hpwl : pw n ≤ 64 := pw_le hn6
        have HA := Lib.hid (ha.below hB4)
        have HX := Lib.hid (hx.below hB4)
        have HY := Lib.hid (hy.below hB4)
        have HOK : Hid (contR P sq xs ys = (zeroL (wedgeL P sq (vecTo n ys n) xs), 0)) := Lib.hid (by rw [contR_ok HR0.out, HSL.out])
        have hfz := zeroL_first (wedgeL P sq (vecTo n ys n) xs)
        obtain ⟨ff, hff⟩ : ∃ ff, ff = firstL (wedgeL P sq (vecTo n ys n) xs) := ⟨_, rfl⟩
        have HFF := Lib.hid hff.symm
        rw [← hff] at hfz
        clear hff
        cases hzz : zeroL (wedgeL P sq (vecTo n ys n) xs)
        · rw [hzz] at hfz
          have HZZ := Lib.hid hzz
          have hfi : ¬ ff < 0 := by simpa using hfz
          clear hzz hfz
          go_wp2
          refine wp_obs 9 [[], [], [], [1, 2], [], [0, 1, 2, 3, 4], [0, 1, 2, 3, 4, 5], [0, 1, 2, 3, 4, 5, 6], []] [VIs (.agg #[.int .i64 P, .slice A n c]), VIs (.agg #[.int .i64 P, .slice A n c]), VIs (.slice Y n cy), VSl w4 (pw n) (vecTo n ys n), VIs (.slice X (pw n) cx), VSl w4 (pw n) (wedgeL P sq (vecTo n ys n) xs), VIs (.bool false), VIs (.bool false), VIs (.int .i64 0)] (fun w' => Blk w' w.heap.size 28 #[.int .i64 P, .slice A n c] ∧ Below w4.heap.size w4 w') (by kernel_rfl) (by kernel_rfl) (fun _ _ h hb => ⟨h.1.below hb h.1.lt, h.2.trans (hb.mono h.2.size)⟩) (⟨k4.drew, (Below.refl _ _).drew⟩) (fun x => ?_)
          refine obs_step (Eq.trans (by simp only [List.getElem?_toArray, List.getElem?_cons_zero]; exact rfl) rfl) rfl (fun w' hS hV K hK => ?_) ?_
          · obtain ⟨q0, q1⟩ := hS.1.two
            go_simp
            exact hK.out _ _ _ rfl rfl rfl (Below.refl _ _)
          simp only [List.setIfInBounds_toArray, List.set_cons_zero, List.set_cons_succ]
          refine obs_step (Eq.trans (by simp only [List.getElem?_toArray, List.getElem?_cons_succ, List.getElem?_cons_zero]; exact rfl) rfl) rfl (fun w' hS hV K hK => ?_) ?_
          · obtain ⟨q0, q1⟩ := hS.1.two
            go_simp
            exact hK.out _ _ _ rfl rfl rfl (Below.refl _ _)
          simp only [List.setIfInBounds_toArray, List.set_cons_zero, List.set_cons_succ]
          refine obs_step (Eq.trans (by simp only [List.getElem?_toArray, List.getElem?_cons_succ, List.getElem?_cons_zero]; exact rfl) rfl) rfl (fun w' hS hV K hK => ?_) ?_
          · obtain ⟨q0, q1⟩ := hS.1.two
            go_simp
            exact hK.out _ _ _ rfl rfl rfl (Below.refl _ _)
          simp only [List.setIfInBounds_toArray, List.set_cons_zero, List.set_cons_succ]
          refine obs_step (Eq.trans (by simp only [List.getElem?_toArray, List.getElem?_cons_succ, List.getElem?_cons_zero]; exact rfl) rfl) rfl (fun w' hS hV K hK => ?_) ?_
          · have e1 : x 1 = (.agg #[.int .i64 P, .slice A n c]) := hV 1 (by decide)
            have e2 : x 2 = (.slice Y n cy) := hV 2 (by decide)
            obtain ⟨q0, q1⟩ := hS.1.two
            go_simp
            refine (vector_any P A n c _ _ ys _ (by omega) (HY.out.below hS.2)).mono ?_
            rintro e v1 ⟨A2, c2, rfl, hM⟩
            exact hK.out _ _ _ rfl rfl ⟨_, _, rfl, hM.after hS.2⟩ hM.b
          simp only [List.setIfInBounds_toArray, List.set_cons_zero, List.set_cons_succ]
          refine obs_step (Eq.trans (by simp only [List.getElem?_toArray, List.getElem?_cons_succ, List.getElem?_cons_zero]; exact rfl) rfl) rfl (fun w' hS hV K hK => ?_) ?_
          · obtain ⟨q0, q1⟩ := hS.1.two
            go_simp
            exact hK.out _ _ _ rfl rfl rfl (Below.refl _ _)
          simp only [List.setIfInBounds_toArray, List.set_cons_zero, List.set_cons_succ]
          refine obs_step (Eq.trans (by simp only [List.getElem?_toArray, List.getElem?_cons_succ, List.getElem?_cons_zero]; exact rfl) rfl) rfl (fun w' hS hV K hK => ?_) ?_
          · have e0 : x 0 = (.agg #[.int .i64 P, .slice A n c]) := hV 0 (by decide)
            have e1 : x 1 = (.agg #[.int .i64 P, .slice A n c]) := hV 1 (by decide)
            have e2 : x 2 = (.slice Y n cy) := hV 2 (by decide)
            obtain ⟨A3, c3, e3, h3⟩ := hV 3 (by decide)
            have e4 : x 4 = (.slice X (pw n) cx) := hV 4 (by decide)
            obtain ⟨q0, q1⟩ := hS.1.two
            go_simp
            refine (wedge_any P A n c sq _ _ (vecTo n ys n) _ _ xs _ hp hp2 hn6 (HA.out.below hS.2) HS0.out h3.rd (vecTo_nums (by omega) n _ HYS.out n) (HX.out.below hS.2) HXS.out).mono ?_
            rintro e v1 ⟨A2, c2, rfl, hM⟩
            exact hK.out _ _ _ rfl rfl ⟨_, _, rfl, hM.after hS.2⟩ hM.b
          simp only [List.setIfInBounds_toArray, List.set_cons_zero, List.set_cons_succ]
          refine obs_step (Eq.trans (by simp only [List.getElem?_toArray, List.getElem?_cons_succ, List.getElem?_cons_zero]; exact rfl) rfl) rfl (fun w' hS hV K hK => ?_) ?_
          · have e0 : x 0 = (.agg #[.int .i64 P, .slice A n c]) := hV 0 (by decide)
            have e1 : x 1 = (.agg #[.int .i64 P, .slice A n c]) := hV 1 (by decide)
            have e2 : x 2 = (.slice Y n cy) := hV 2 (by decide)
            obtain ⟨A3, c3, e3, h3⟩ := hV 3 (by decide)
            have e4 : x 4 = (.slice X (pw n) cx) := hV 4 (by decide)
            obtain ⟨A5, c5, e5, h5⟩ := hV 5 (by decide)
            obtain ⟨q0, q1⟩ := hS.1.two
            go_simp
            refine (isZero_any _ _ _ _ _ (by omega) h5.rd).mono ?_
            rw [HZZ.out]
            rintro e v1 ⟨rfl, rfl⟩
            exact hK.out _ _ _ rfl rfl rfl (Below.refl _ _)
          simp only [List.setIfInBounds_toArray, List.set_cons_zero, List.set_cons_succ]
          refine obs_step (Eq.trans (by simp only [List.getElem?_toArray, List.getElem?_cons_succ, List.getElem?_cons_zero]; exact rfl) rfl) rfl (fun w' hS hV K hK => ?_) ?_
          · have e0 : x 0 = (.agg #[.int .i64 P, .slice A n c]) := hV 0 (by decide)
            have e1 : x 1 = (.agg #[.int .i64 P, .slice A n c]) := hV 1 (by decide)
            have e2 : x 2 = (.slice Y n cy) := hV 2 (by decide)
            obtain ⟨A3, c3, e3, h3⟩ := hV 3 (by decide)
            have e4 : x 4 = (.slice X (pw n) cx) := hV 4 (by decide)
            obtain ⟨A5, c5, e5, h5⟩ := hV 5 (by decide)
            have e6 : x 6 = (.bool false) := hV 6 (by decide)
            obtain ⟨q0, q1⟩ := hS.1.two
            go_simp
            exact hK.out _ _ _ rfl rfl rfl (Below.refl _ _)
          simp only [List.setIfInBounds_toArray, List.set_cons_zero, List.set_cons_succ]
          refine obs_step (Eq.trans (by simp only [List.getElem?_toArray, List.getElem?_cons_succ, List.getElem?_cons_zero]; exact rfl) rfl) rfl (fun w' hS hV K hK => ?_) ?_
          · obtain ⟨q0, q1⟩ := hS.1.two
            go_simp
            exact hK.out _ _ _ rfl rfl rfl (Below.refl _ _)
          simp only [List.setIfInBounds_toArray, List.set_cons_zero, List.set_cons_succ]
          refine fun w' hS hV => ?_
          have e0 : x 0 = (.agg #[.int .i64 P, .slice A n c]) := hV 0 (by decide)
          have e1 : x 1 = (.agg #[.int .i64 P, .slice A n c]) := hV 1 (by decide)
          have e2 : x 2 = (.slice Y n cy) := hV 2 (by decide)
          obtain ⟨A3, c3, e3, h3⟩ := hV 3 (by decide)
          have e4 : x 4 = (.slice X (pw n) cx) := hV 4 (by decide)
          obtain ⟨A5, c5, e5, h5⟩ := hV 5 (by decide)
          have e6 : x 6 = (.bool false) := hV 6 (by decide)
          have e7 : x 7 = (.bool false) := hV 7 (by decide)
          have e8 : x 8 = (.int .i64 0) := hV 8 (by decide)
          simp only [e0, e1, e2, e3, e4, e5, e6, e7, e8]
          clear e0 e1 e2 e3 e4 e5 e6 e7 e8
          refine wpAny_done (by kernel_rfl) ?_ _
          go_wp2
          go_ret2
          exact ⟨ret_bi3 (by rw [HOK.out, HZZ.out]), hB4.trans (hS.2.mono hB4.size)⟩
        · rw [hzz] at hfz
          have HZZ := Lib.hid hzz
          have hfi : ff < 0 := by simpa using hfz
          clear hzz hfz
          go_wp2
          refine wp_obs 9 [[], [], [], [1, 2], [], [0, 1, 2, 3, 4], [0, 1, 2, 3, 4, 5], [0, 1, 2, 3, 4, 5, 6], []] [VIs (.agg #[.int .i64 P, .slice A n c]), VIs (.agg #[.int .i64 P, .slice A n c]), VIs (.slice Y n cy), VSl w4 (pw n) (vecTo n ys n), VIs (.slice X (pw n) cx), VSl w4 (pw n) (wedgeL P sq (vecTo n ys n) xs), VIs (.bool true), VIs (.bool true), VIs (.int .i64 0)] (fun w' => Blk w' w.heap.size 28 #[.int .i64 P, .slice A n c] ∧ Below w4.heap.size w4 w') (by kernel_rfl) (by kernel_rfl) (fun _ _ h hb => ⟨h.1.below hb h.1.lt, h.2.trans (hb.mono h.2.size)⟩) (⟨k4.drew, (Below.refl _ _).drew⟩) (fun x => ?_)
          refine obs_step (Eq.trans (by simp only [List.getElem?_toArray, List.getElem?_cons_zero]; exact rfl) rfl) rfl (fun w' hS hV K hK => ?_) ?_
          · obtain ⟨q0, q1⟩ := hS.1.two
            go_simp
            exact hK.out _ _ _ rfl rfl rfl (Below.refl _ _)
          simp only [List.setIfInBounds_toArray, List.set_cons_zero, List.set_cons_succ]
          refine obs_step (Eq.trans (by simp only [List.getElem?_toArray, List.getElem?_cons_succ, List.getElem?_cons_zero]; exact rfl) rfl) rfl (fun w' hS hV K hK => ?_) ?_
          · obtain ⟨q0, q1⟩ := hS.1.two
            go_simp
            exact hK.out _ _ _ rfl rfl rfl (Below.refl _ _)
          simp only [List.setIfInBounds_toArray, List.set_cons_zero, List.set_cons_succ]
          refine obs_step (Eq.trans (by simp only [List.getElem?_toArray, List.getElem?_cons_succ, List.getElem?_cons_zero]; exact rfl) rfl) rfl (fun w' hS hV K hK => ?_) ?_
          · obtain ⟨q0, q1⟩ := hS.1.two
            go_simp
            exact hK.out _ _ _ rfl rfl rfl (Below.refl _ _)
          simp only [List.setIfInBounds_toArray, List.set_cons_zero, List.set_cons_succ]
          refine obs_step (Eq.trans (by simp only [List.getElem?_toArray, List.getElem?_cons_succ, List.getElem?_cons_zero]; exact rfl) rfl) rfl (fun w' hS hV K hK => ?_) ?_
          · have e1 : x 1 = (.agg #[.int .i64 P, .slice A n c]) := hV 1 (by decide)
            have e2 : x 2 = (.slice Y n cy) := hV 2 (by decide)
            obtain ⟨q0, q1⟩ := hS.1.two
            go_simp
            refine (vector_any P A n c _ _ ys _ (by omega) (HY.out.below hS.2)).mono ?_
            rintro e v1 ⟨A2, c2, rfl, hM⟩
            exact hK.out _ _ _ rfl rfl ⟨_, _, rfl, hM.after hS.2⟩ hM.b
          simp only [List.setIfInBounds_toArray, List.set_cons_zero, List.set_cons_succ]
          refine obs_step (Eq.trans (by simp only [List.getElem?_toArray, List.getElem?_cons_succ, List.getElem?_cons_zero]; exact rfl) rfl) rfl (fun w' hS hV K hK => ?_) ?_
          · obtain ⟨q0, q1⟩ := hS.1.two
            go_simp
            exact hK.out _ _ _ rfl rfl rfl (Below.refl _ _)
          simp only [List.setIfInBounds_toArray, List.set_cons_zero, List.set_cons_succ]
          refine obs_step (Eq.trans (by simp only [List.getElem?_toArray, List.getElem?_cons_succ, List.getElem?_cons_zero]; exact rfl) rfl) rfl (fun w' hS hV K hK => ?_) ?_
          · have e0 : x 0 = (.agg #[.int .i64 P, .slice A n c]) := hV 0 (by decide)
            have e1 : x 1 = (.agg #[.int .i64 P, .slice A n c]) := hV 1 (by decide)
            have e2 : x 2 = (.slice Y n cy) := hV 2 (by decide)
            obtain ⟨A3, c3, e3, h3⟩ := hV 3 (by decide)
            have e4 : x 4 = (.slice X (pw n) cx) := hV 4 (by decide)
            obtain ⟨q0, q1⟩ := hS.1.two
            go_simp
            refine (wedge_any P A n c sq _ _ (vecTo n ys n) _ _ xs _ hp hp2 hn6 (HA.out.below hS.2) HS0.out h3.rd (vecTo_nums (by omega) n _ HYS.out n) (HX.out.below hS.2) HXS.out).mono ?_
            rintro e v1 ⟨A2, c2, rfl, hM⟩
            exact hK.out _ _ _ rfl rfl ⟨_, _, rfl, hM.after hS.2⟩ hM.b
          simp only [List.setIfInBounds_toArray, List.set_cons_zero, List.set_cons_succ]
          refine obs_step (Eq.trans (by simp only [List.getElem?_toArray, List.getElem?_cons_succ, List.getElem?_cons_zero]; exact rfl) rfl) rfl (fun w' hS hV K hK => ?_) ?_
          · have e0 : x 0 = (.agg #[.int .i64 P, .slice A n c]) := hV 0 (by decide)
            have e1 : x 1 = (.agg #[.int .i64 P, .slice A n c]) := hV 1 (by decide)
            have e2 : x 2 = (.slice Y n cy) := hV 2 (by decide)
            obtain ⟨A3, c3, e3, h3⟩ := hV 3 (by decide)
            have e4 : x 4 = (.slice X (pw n) cx) := hV 4 (by decide)
            obtain ⟨A5, c5, e5, h5⟩ := hV 5 (by decide)
            obtain ⟨q0, q1⟩ := hS.1.two
            go_simp
            refine (isZero_any _ _ _ _ _ (by omega) h5.rd).mono ?_
            rw [HZZ.out]
            rintro e v1 ⟨rfl, rfl⟩
            exact hK.out _ _ _ rfl rfl rfl (Below.refl _ _)
          simp only [List.setIfInBounds_toArray, List.set_cons_zero, List.set_cons_succ]
          refine obs_step (Eq.trans (by simp only [List.getElem?_toArray, List.getElem?_cons_succ, List.getElem?_cons_zero]; exact rfl) rfl) rfl (fun w' hS hV K hK => ?_) ?_
          · have e0 : x 0 = (.agg #[.int .i64 P, .slice A n c]) := hV 0 (by decide)
            have e1 : x 1 = (.agg #[.int .i64 P, .slice A n c]) := hV 1 (by decide)
            have e2 : x 2 = (.slice Y n cy) := hV 2 (by decide)
            obtain ⟨A3, c3, e3, h3⟩ := hV 3 (by decide)
            have e4 : x 4 = (.slice X (pw n) cx) := hV 4 (by decide)
            obtain ⟨A5, c5, e5, h5⟩ := hV 5 (by decide)
            have e6 : x 6 = (.bool true) := hV 6 (by decide)
            obtain ⟨q0, q1⟩ := hS.1.two
            go_simp
            exact hK.out _ _ _ rfl rfl rfl (Below.refl _ _)
          simp only [List.setIfInBounds_toArray, List.set_cons_zero, List.set_cons_succ]
          refine obs_step (Eq.trans (by simp only [List.getElem?_toArray, List.getElem?_cons_succ, List.getElem?_cons_zero]; exact rfl) rfl) rfl (fun w' hS hV K hK => ?_) ?_
          · obtain ⟨q0, q1⟩ := hS.1.two
            go_simp
            exact hK.out _ _ _ rfl rfl rfl (Below.refl _ _)
          simp only [List.setIfInBounds_toArray, List.set_cons_zero, List.set_cons_succ]
          refine fun w' hS hV => ?_
          have e0 : x 0 = (.agg #[.int .i64 P, .slice A n c]) := hV 0 (by decide)
          have e1 : x 1 = (.agg #[.int .i64 P, .slice A n c]) := hV 1 (by decide)
          have e2 : x 2 = (.slice Y n cy) := hV 2 (by decide)
          obtain ⟨A3, c3, e3, h3⟩ := hV 3 (by decide)
          have e4 : x 4 = (.slice X (pw n) cx) := hV 4 (by decide)
          obtain ⟨A5, c5, e5, h5⟩ := hV 5 (by decide)
          have e6 : x 6 = (.bool true) := hV 6 (by decide)
          have e7 : x 7 = (.bool true) := hV 7 (by decide)
          have e8 : x 8 = (.int .i64 0) := hV 8 (by decide)
          simp only [e0, e1, e2, e3, e4, e5, e6, e7, e8]
          clear e0 e1 e2 e3 e4 e5 e6 e7 e8
          refine wpAny_done (by kernel_rfl) ?_ _
          go_wp2
          go_ret2
          exact ⟨ret_bi3 (by rw [HOK.out, HZZ.out]), hB4.trans (hS.2.mono hB4.size)⟩
  · have HCN := Lib.hid (codeLv_ne (v := ys) hcM)
    obtain ⟨r, hr⟩ : ∃ r, r = codeM P sq [xs] := ⟨_, rfl⟩
    have HC5 : Hid (¬ codeLv P sq xs ys = 0 ∧ codeLv P sq xs ys = r) := Lib.hid (by rw [HCN.out, hr]; exact ⟨hcM, rfl⟩)
    have b0 : (r != 0) = true := code_ne (by rw [hr]; exact hcM)
    rw [← hr] at hreg
    clear hr hcM
    go_enter Tryz.func18, Tryz.ntmps18
    go_wp2_with fail
    refine hreg.mono ?_
    rintro e w2 ⟨rfl, hb2⟩
    have hB2 := hB1.trans (hb2.mono hB1.size)
    have k2 := k1.below hb2 k1.lt
    obtain ⟨q0, q1⟩ := k2.two
    clear k0 hB0 k1 hB1 hb2
    go_wp2
    go_ret2
    exact ⟨ret_bi3 (by rw [contR_bad HC5.out.1, HC5.out.2]), hB2⟩

/-- IsBlade. -/
def isblR (P : Int) (sq : List Int) (xs : List Int) : Bool × Int := if codeM P sq [xs] = 0 then (isBl P sq sq.length xs, 0) else (false, codeM P sq [xs])
theorem isblR_ok {P : Int} {sq xs : List Int} (h : codeM P sq [xs] = 0) : isblR P sq xs = (isBl P sq sq.length xs, 0) := by unfold isblR; rw [if_pos h]
theorem isblR_bad {P : Int} {sq xs : List Int} (h : ¬ codeM P sq [xs] = 0) : isblR P sq xs = (false, codeM P sq [xs]) := by unfold isblR; rw [if_neg h]



end Go.Proofs.YtommppijnccomaaGreat
