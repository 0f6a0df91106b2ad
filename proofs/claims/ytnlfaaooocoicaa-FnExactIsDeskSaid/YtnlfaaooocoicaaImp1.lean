/-
  Multivectors, doublings, elements and desks: the program's tests.
-/
import Derived.Test.YtnlfaaooocoicaaSlices
import Derived.Test.YtnlfaaooocoicaaPred2
namespace Go.Proofs.Ytnlfaaooocoicaa
open Go.RowKit

theorem length_b (A : Option Addr) (n c : Nat) (w : World) :
    Calls Try.prog 55 #[.slice A n c] w fun e w' => e = .returned (.int .i64 n) ∧ w = w' := length_any A n c w
theorem is_b {b : Bool} (p : Int) (A : Option Addr) (n c : Nat) (xs : List Int) (w : World) (hp : 0 < p) (hp2 : p ≤ 100) (hn : n ≤ 1099511627776) (ha : Rd w A n (ints xs)) (h : nums p xs = b) :
    Calls Try.prog 52 #[.int .i64 p, .slice A n c] w fun e w' => e = .returned (.bool b) ∧ w = w' := h ▸ is_any p A n c xs w hp hp2 hn ha

set_option maxHeartbeats 400000 in
theorem dfield_any (P : Int) (A : Option Addr) (n c : Nat) (w : World) :
    Calls Try.prog 51 #[.agg #[.int .i64 P, .slice A n c]] w fun e w' => e = .returned (.int .i64 P) ∧ Below w.heap.size w w' := by
  go_enter Try.func51, Try.ntmps51
  go_wp2
  go_ret
  exact ⟨rfl, (Below.refl _ _).alloc (Nat.le_refl _) _⟩

set_option maxHeartbeats 1000000 in
theorem isMulti_any (P : Int) (A B : Option Addr) (n c m d : Nat) (xs ys : List Int) (w : World) (hn : n ≤ 6) (hxl : xs.length = n) (hm : m ≤ 1048576) (hp0 : 0 < P) (hp1 : P ≤ 13) (hb : Rd w B m (ints ys)) :
    Calls Try.prog 47 #[.agg #[.int .i64 P, .slice A n c], .slice B m d] w fun e w' => e = .returned (.bool (isMu P xs ys)) ∧ Below w.heap.size w w' := by
  have hyl : ys.length = m := by have := hb.1; rwa [ints_length] at this
  have hmu : isMu P xs ys = ((((m : Nat) : Int) == ((pw n : Nat) : Int)) && nums P ys) := by unfold isMu; rw [hxl, hyl]
  have Hmu := Lib.hid hmu
  have hB : Below w.heap.size w (w.alloc (.cells #[.int .i64 P, .slice A n c] 24)) := (Below.refl _ _).alloc (Nat.le_refl _) _
  have k0 : Blk (w.alloc (.cells #[.int .i64 P, .slice A n c] 24)) w.heap.size 24 #[.int .i64 P, .slice A n c] := Blk.new _ _ _
  have hw := wrap_pw n (by omega)
  clear hmu hxl hyl
  cases h2 : (((m : Nat) : Int) == ((pw n : Nat) : Int))
  all_goals
    have H2 := Lib.hid h2
    rw [← hw] at h2
    have Hw := Lib.hid hw
    clear hw
    go_enter Try.func47, Try.ntmps47
    go_wp2_with fail
    refine (dim_any _ _ _ _ _).mono ?_
    rintro e w1 ⟨rfl, hb1⟩
    have k1 := k0.below hb1 k0.lt
    obtain ⟨q0, q1⟩ := k1.two
    have hB1 := hB.trans (hb1.mono (by simp))
    clear k0
    go_wp2_with fail
  · go_ret
    exact ⟨ret_bool (by rw [Hmu.out, H2.out]; rfl), hB1⟩
  · refine (field_any _ _ _ _ _).mono ?_
    rintro e w2 ⟨rfl, hb2⟩
    have hB2 := hB1.trans (hb2.mono hB1.size)
    go_wp2_with fail
    refine (is_any _ _ _ _ _ _ hp0 (by omega) (by omega) (hb.below hB2)).mono ?_
    rintro e w3 ⟨rfl, rfl⟩
    go_wp2
    go_ret
    exact ⟨ret_bool (by rw [Hmu.out, H2.out]; rfl), hB2⟩

theorem IsSpace_b {b : Bool} (P : Int) (A : Option Addr) (n c : Nat) (xs : List Int) (w : World) (hn : n ≤ 1099511627776) (ha : Rd w A n (ints xs)) (h : isSp P xs = b) :
    Calls Try.prog 46 #[.agg #[.int .i64 P, .slice A n c]] w fun e w' => e = .returned (.bool b) ∧ Below w.heap.size w w' := h ▸ IsSpace_any P A n c xs w hn ha

set_option maxHeartbeats 1000000 in
theorem IsMultivector_any (P : Int) (A B : Option Addr) (n c m d : Nat) (xs ys : List Int) (w : World) (hn : n ≤ 1048576) (hm : m ≤ 1048576) (ha : Rd w A n (ints xs)) (hb : Rd w B m (ints ys)) :
    Calls Try.prog 36 #[.agg #[.int .i64 P, .slice A n c], .slice B m d] w fun e w' => e = .returned (.bool (isSp P xs && isMu P xs ys)) ∧ Below w.heap.size w w' := by
  have hxl : xs.length = n := by have := ha.1; rwa [ints_length] at this
  have hB : Below w.heap.size w (w.alloc (.cells #[.int .i64 P, .slice A n c] 24)) := (Below.refl _ _).alloc (Nat.le_refl _) _
  have k0 : Blk (w.alloc (.cells #[.int .i64 P, .slice A n c] 24)) w.heap.size 24 #[.int .i64 P, .slice A n c] := Blk.new _ _ _
  cases h1 : isSp P xs
  · have H1 := Lib.hid h1; clear h1
    have Hx := Lib.hid hxl; clear hxl
    go_enter Try.func36, Try.ntmps36
    go_wp2_with fail
    refine (IsSpace_b _ _ _ _ _ _ (by omega) (ha.below hB) H1.out).mono ?_
    rintro e w1 ⟨rfl, hb1⟩
    go_wp2
    go_ret
    exact ⟨rfl, hB.trans (hb1.mono (by simp))⟩
  · obtain ⟨hp, hd1, hd2, -⟩ := isSp_dim h1
    obtain ⟨hp0, hp1⟩ := isP_pos hp
    have H1 := Lib.hid h1; clear h1 hp
    rw [hxl] at hd1 hd2
    have Hx := Lib.hid hxl; clear hxl
    go_enter Try.func36, Try.ntmps36
    go_wp2_with fail
    refine (IsSpace_b _ _ _ _ _ _ (by omega) (ha.below hB) H1.out).mono ?_
    rintro e w1 ⟨rfl, hb1⟩
    obtain ⟨q0, q1⟩ := (k0.below hb1 k0.lt).two
    have hB1 := hB.trans (hb1.mono (by simp))
    go_wp2_with fail
    refine (isMulti_any _ _ _ _ _ _ _ xs _ _ hd2 Hx.out (by omega) hp0 hp1 (hb.below hB1)).mono ?_
    rintro e w2 ⟨rfl, hb2⟩
    go_wp2
    go_ret
    exact ⟨rfl, hB1.trans (hb2.mono hB1.size)⟩
theorem IsMultivector_b {b : Bool} (P : Int) (A B : Option Addr) (n c m d : Nat) (xs ys : List Int) (w : World) (hn : n ≤ 1048576) (hm : m ≤ 1048576) (ha : Rd w A n (ints xs)) (hb : Rd w B m (ints ys)) (h : (isSp P xs && isMu P xs ys) = b) :
    Calls Try.prog 36 #[.agg #[.int .i64 P, .slice A n c], .slice B m d] w fun e w' => e = .returned (.bool b) ∧ Below w.heap.size w w' := h ▸ IsMultivector_any P A B n c m d xs ys w hn hm ha hb

/-- The program's test of a doubling is the reference's. -/
theorem isDb_eq (P : Int) (xs : List Int) : isDb P xs = (isP P && decide (((xs.length : Nat) : Int) ≤ 4) && nums P xs && !(xs.contains 0)) := by
  have h : (xs.all fun x => inR x 1 (P - 1)) = (nums P xs && !(xs.contains 0)) := by
    induction xs with
    | nil => simp [nums]
    | cons x xs ih =>
      have e : inR x 1 (P - 1) = (inR x 0 (P - 1) && !(x == 0)) := by
        rw [Bool.eq_iff_iff]; simp [inR]; omega
      have hn : nums P (x :: xs) = (inR x 0 (P - 1) && nums P xs) := by simp [nums]
      have hc : (x :: xs).contains 0 = ((0 == x) || xs.contains 0) := List.contains_cons
      rw [List.all_cons, ih, e, hn, hc, Bool.not_or]
      have : ((0 : Int) == x) = (x == 0) := by rw [Bool.eq_iff_iff]; simp; omega
      rw [this]
      cases inR x 0 (P - 1) <;> cases (x == 0) <;> cases nums P xs <;> cases (xs.contains 0) <;> rfl
  unfold isDb
  rw [h, Bool.and_assoc, Bool.and_assoc]
  simp only [Bool.and_assoc]

end Go.Proofs.Ytnlfaaooocoicaa
