/-
  Small functions of the reference: primes, ranges, lists of numbers, spaces.
-/
import Derived.Test.YtommppijnccomaaGreatLeaf
import Derived.Test.YtommppijnccomaaGreatUnit
namespace Go.Proofs.YtommppijnccomaaGreat
open Go.RowKit

set_option maxHeartbeats 400000 in
theorem l01Prime_any (p : Int) (w : World) :
    Calls Tryz.prog 142 #[.int .i64 p] w fun e w' => e = .returned (.bool (isP p)) ∧ w = w' := by
  by_cases h3 : p = 3
  · subst h3
    go_enter Tryz.func142, Tryz.ntmps142
    go_wp2
    go_ret
    exact ⟨rfl, rfl⟩
  have b3 : (p == 3) = false := by simpa using h3
  by_cases h5 : p = 5
  · subst h5
    go_enter Tryz.func142, Tryz.ntmps142
    go_wp2
    go_ret
    exact ⟨rfl, rfl⟩
  have b5 : (p == 5) = false := by simpa using h5
  by_cases h7 : p = 7
  · subst h7
    go_enter Tryz.func142, Tryz.ntmps142
    go_wp2
    go_ret
    exact ⟨rfl, rfl⟩
  have b7 : (p == 7) = false := by simpa using h7
  by_cases h11 : p = 11
  · subst h11
    go_enter Tryz.func142, Tryz.ntmps142
    go_wp2
    go_ret
    exact ⟨rfl, rfl⟩
  have b11 : (p == 11) = false := by simpa using h11
  go_enter Tryz.func142, Tryz.ntmps142
  go_wp2
  go_ret
  exact ⟨ret_bool (by simp [isP, b3, b5, b7, b11]), rfl⟩

theorem l01Prime_b {b : Bool} (p : Int) (w : World) (h : isP p = b) :
    Calls Tryz.prog 142 #[.int .i64 p] w fun e w' => e = .returned (.bool b) ∧ w = w' := h ▸ l01Prime_any p w

set_option maxHeartbeats 400000 in
theorem l01In_any (n lo hi : Int) (w : World) :
    Calls Tryz.prog 143 #[.int .i64 n, .int .i64 lo, .int .i64 hi] w fun e w' => e = .returned (.bool (inR n lo hi)) ∧ w = w' := by
  by_cases h : lo ≤ n
  · go_enter Tryz.func143, Tryz.ntmps143
    go_wp2
    go_ret
    exact ⟨ret_bool (by simp [inR, h]), rfl⟩
  · go_enter Tryz.func143, Tryz.ntmps143
    go_wp2
    go_ret
    exact ⟨ret_bool (by simp [inR]; omega), rfl⟩
theorem l01In_b {b : Bool} (n lo hi : Int) (w : World) (h : inR n lo hi = b) :
    Calls Tryz.prog 143 #[.int .i64 n, .int .i64 lo, .int .i64 hi] w fun e w' => e = .returned (.bool b) ∧ w = w' := h ▸ l01In_any n lo hi w

set_option maxHeartbeats 400000 in
theorem l01Numbers_any (p : Int) (A : Option Addr) (n c : Nat) (xs : List Int) (w : World) (hp : 0 < p) (hp2 : p ≤ 100) (hn : n ≤ 1099511627776) (ha : Rd w A n (ints xs)) :
    Calls Tryz.prog 122 #[.int .i64 p, .slice A n c] w fun e w' => e = .returned (.bool (nums p xs)) ∧ w = w' := by
  have hxl : xs.length = n := by have := ha.1; rwa [ints_length] at this
  have Hx := Lib.hid hxl; clear hxl
  go_enter Tryz.func122, Tryz.ntmps122
  go_wp2
  go_loop [5] (fun i => ∃ k : Nat, k ≤ n ∧ i = .int .i64 k ∧ nums p (xs.take k) = true) (fun i => n - (intOf i).toNat)
  case atStart => exact ⟨0, by omega, rfl, by simp [nums]⟩
  case round =>
    obtain ⟨k, hk, rfl, ht⟩ := hrel
    have H := Lib.hid ht; clear ht
    by_cases hlt : k < n
    · obtain ⟨g, o, rfl, hx, hcx⟩ := ha.int hlt
      clear ha
      cases hi : inR xs[k] 0 (p - 1)
      all_goals
        have HI := Lib.hid hi; clear hi
        go_wp2_with (go_at_call 143; refine (l01In_b _ _ _ _ HI.out).mono ?_; rintro e w' ⟨rfl, rfl⟩)
      · go_ret
        exact ⟨ret_bool (nums_bad p xs k hx HI.out).symm, rfl⟩
      · go_round
        case rel => exact ⟨k + 1, by omega, by go_num, nums_take p xs k hx H.out HI.out⟩
        case measure => simp [intOf]; omega
    · go_wp2
      go_ret
      have := H.out
      rw [List.take_of_length_le (by rw [Hx.out]; omega)] at this
      exact ⟨ret_bool this.symm, rfl⟩
theorem l01Numbers_b {b : Bool} (p : Int) (A : Option Addr) (n c : Nat) (xs : List Int) (w : World) (hp : 0 < p) (hp2 : p ≤ 100) (hn : n ≤ 1099511627776) (ha : Rd w A n (ints xs)) (h : nums p xs = b) :
    Calls Tryz.prog 122 #[.int .i64 p, .slice A n c] w fun e w' => e = .returned (.bool b) ∧ w = w' := h ▸ l01Numbers_any p A n c xs w hp hp2 hn ha

set_option maxHeartbeats 800000 in
theorem l03Is_any (P : Int) (A : Option Addr) (n c : Nat) (xs : List Int) (w : World) (hn : n ≤ 1099511627776) (ha : Rd w A n (ints xs)) :
    Calls Tryz.prog 120 #[.agg #[.int .i64 P, .slice A n c]] w fun e w' => e = .returned (.bool (isSp P xs)) ∧ Below w.heap.size w w' := by
  have hxl : xs.length = n := by have := ha.1; rwa [ints_length] at this
  have Hx := Lib.hid hxl; clear hxl
  have hB : Below w.heap.size w (w.alloc (.cells #[.int .i64 P, .slice A n c] 28)) := (Below.refl _ _).alloc (Nat.le_refl _) _
  have ha' := ha.below hB
  cases h1 : isP P
  · have H1 := Lib.hid h1; clear h1
    go_enter Tryz.func120, Tryz.ntmps120
    go_wp2_with (go_at_call 142; refine (l01Prime_b _ _ H1.out).mono ?_; rintro e w' ⟨rfl, rfl⟩)
    go_ret
    exact ⟨ret_bool (by simp [isSp, H1.out]), hB⟩
  · obtain ⟨hp0, hp1⟩ := isP_pos h1
    have H1 := Lib.hid h1; clear h1
    cases h2 : inR n 1 6
    · have H2 := Lib.hid h2; clear h2
      go_enter Tryz.func120, Tryz.ntmps120
      go_wp2_with (first | (go_at_call 142; refine (l01Prime_b _ _ H1.out).mono ?_; rintro e w' ⟨rfl, rfl⟩) | (go_at_call 143; refine (l01In_b _ _ _ _ H2.out).mono ?_; rintro e w' ⟨rfl, rfl⟩))
      go_ret
      exact ⟨ret_bool (by simp [isSp, H1.out, H2.out, Hx.out]), hB⟩
    · have H2 := Lib.hid h2; clear h2
      go_enter Tryz.func120, Tryz.ntmps120
      go_wp2_with (first | (go_at_call 142; refine (l01Prime_b _ _ H1.out).mono ?_; rintro e w' ⟨rfl, rfl⟩) | (go_at_call 143; refine (l01In_b _ _ _ _ H2.out).mono ?_; rintro e w' ⟨rfl, rfl⟩) | (go_at_call 122; refine (l01Numbers_any _ _ _ _ _ _ hp0 (by omega) hn ha').mono ?_; rintro e w' ⟨rfl, rfl⟩))
      go_ret
      exact ⟨ret_bool (by simp [isSp, H1.out, H2.out, Hx.out]), hB⟩
theorem l03Is_b {b : Bool} (P : Int) (A : Option Addr) (n c : Nat) (xs : List Int) (w : World) (hn : n ≤ 1099511627776) (ha : Rd w A n (ints xs)) (h : isSp P xs = b) :
    Calls Tryz.prog 120 #[.agg #[.int .i64 P, .slice A n c]] w fun e w' => e = .returned (.bool b) ∧ Below w.heap.size w w' := h ▸ l03Is_any P A n c xs w hn ha

end Go.Proofs.YtommppijnccomaaGreat
