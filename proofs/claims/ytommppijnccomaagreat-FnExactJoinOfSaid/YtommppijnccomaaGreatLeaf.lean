/-
  Small functions: dimensions, sizes, ranges, primes.
-/
import Derived.Test.YtommppijnccomaaGreatMem
import Derived.Deep.RegionHeld3
import Derived.WalkSpells
namespace Go.Proofs.YtommppijnccomaaGreat
open Go.RowKit

set_option maxHeartbeats 400000 in
theorem dim_any (P : Int) (A : Option Addr) (n c : Nat) (w : World) :
    Calls Tryz.prog 77 #[.agg #[.int .i64 P, .slice A n c]] w fun e w' => e = .returned (.int .i64 n) ∧ Below w.heap.size w w' := by
  go_enter Tryz.func77, Tryz.ntmps77
  go_wp2
  go_ret
  exact ⟨rfl, (Below.refl _ _).alloc (Nat.le_refl _) _⟩

set_option maxHeartbeats 400000 in
theorem field_any (P : Int) (A : Option Addr) (n c : Nat) (w : World) :
    Calls Tryz.prog 68 #[.agg #[.int .i64 P, .slice A n c]] w fun e w' => e = .returned (.int .i64 P) ∧ Below w.heap.size w w' := by
  go_enter Tryz.func68, Tryz.ntmps68
  go_wp2
  go_ret
  exact ⟨rfl, (Below.refl _ _).alloc (Nat.le_refl _) _⟩

set_option maxHeartbeats 400000 in
theorem length_any (A : Option Addr) (n c : Nat) (w : World) :
    Calls Tryz.prog 127 #[.slice A n c] w fun e w' => e = .returned (.int .i64 n) ∧ w = w' := by
  go_enter Tryz.func127, Tryz.ntmps127
  go_wp2
  go_ret
  exact ⟨rfl, rfl⟩

def inR (n lo hi : Int) : Bool := decide (lo ≤ n) && decide (n ≤ hi)
set_option maxHeartbeats 400000 in
theorem inRange_any (n lo hi : Int) (w : World) :
    Calls Tryz.prog 126 #[.int .i64 n, .int .i64 lo, .int .i64 hi] w fun e w' => e = .returned (.bool (inR n lo hi)) ∧ w = w' := by
  by_cases h : lo ≤ n
  · go_enter Tryz.func126, Tryz.ntmps126
    go_wp2
    go_ret
    exact ⟨ret_bool (by simp [inR, h]), rfl⟩
  · go_enter Tryz.func126, Tryz.ntmps126
    go_wp2
    go_ret
    exact ⟨ret_bool (by simp [inR]; omega), rfl⟩

def isP (p : Int) : Bool := (p == 3) || (p == 5) || (p == 7) || (p == 11) || (p == 13)

set_option maxHeartbeats 400000 in
theorem IsPrime_any (p : Int) (w : World) :
    Calls Tryz.prog 125 #[.int .i64 p] w fun e w' => e = .returned (.bool (isP p)) ∧ w = w' := by
  go_enter Tryz.func125, Tryz.ntmps125
  go_wp2
  all_goals go_ret
  all_goals exact ⟨ret_bool (by simp [isP, *]), rfl⟩

theorem inRange_b {b : Bool} (n lo hi : Int) (w : World) (h : inR n lo hi = b) :
    Calls Tryz.prog 126 #[.int .i64 n, .int .i64 lo, .int .i64 hi] w fun e w' => e = .returned (.bool b) ∧ w = w' := h ▸ inRange_any n lo hi w
theorem IsPrime_b {b : Bool} (p : Int) (w : World) (h : isP p = b) :
    Calls Tryz.prog 125 #[.int .i64 p] w fun e w' => e = .returned (.bool b) ∧ w = w' := h ▸ IsPrime_any p w

/-- All numbers of a list are from 0 to p - 1. -/
def nums (p : Int) (xs : List Int) : Bool := xs.all fun x => inR x 0 (p - 1)

theorem nums_take (p : Int) (xs : List Int) (k : Nat) (h : k < xs.length) (ht : nums p (xs.take k) = true) (hi : inR xs[k] 0 (p - 1) = true) : nums p (xs.take (k + 1)) = true := by
  unfold nums at *
  rw [List.take_succ_eq_append_getElem h, List.all_append, ht]
  simp [hi]
theorem nums_bad (p : Int) (xs : List Int) (k : Nat) (h : k < xs.length) (hi : inR xs[k] 0 (p - 1) = false) : nums p xs = false := by
  unfold nums
  rw [List.all_eq_false]
  exact ⟨xs[k], List.getElem_mem h, by simp [hi]⟩

set_option maxHeartbeats 400000 in
theorem is_any (p : Int) (A : Option Addr) (n c : Nat) (xs : List Int) (w : World) (hp : 0 < p) (hp2 : p ≤ 100) (hn : n ≤ 1099511627776) (ha : Rd w A n (ints xs)) :
    Calls Tryz.prog 94 #[.int .i64 p, .slice A n c] w fun e w' => e = .returned (.bool (nums p xs)) ∧ w = w' := by
  have hxl : xs.length = n := by have := ha.1; rwa [ints_length] at this
  have Hx := Lib.hid hxl; clear hxl
  go_enter Tryz.func94, Tryz.ntmps94
  go_wp2
  go_loop [9] (fun i => ∃ k : Nat, k ≤ n ∧ i = .int .i64 k ∧ nums p (xs.take k) = true) (fun i => n - (intOf i).toNat)
  case atStart => exact ⟨0, by omega, rfl, by simp [nums]⟩
  case round =>
    obtain ⟨k, hk, rfl, ht⟩ := hrel
    have H := Lib.hid ht; clear ht
    by_cases hlt : k < n
    · obtain ⟨g, o, rfl, hx, hcx⟩ := ha.int hlt
      clear ha
      cases hi : inR xs[k] 0 (p - 1)
      all_goals
        have HI := Lib.hid hi; clear hi
        go_wp2_with (go_at_call 126; refine (inRange_any _ _ _ _).mono ?_; rintro e w' ⟨rfl, rfl⟩; rw [HI.out])
      · go_ret
        exact ⟨ret_bool (nums_bad p xs k hx HI.out).symm, rfl⟩
      · go_round
        case rel => exact ⟨k + 1, by omega, by go_num, nums_take p xs k hx H.out HI.out⟩
        case measure => simp [intOf]; omega
    · go_wp2
      go_ret
      have := H.out
      rw [List.take_of_length_le (by rw [Hx.out]; omega)] at this
      exact ⟨ret_bool this.symm, rfl⟩

/-- Is it a space? -/
def isSp (P : Int) (xs : List Int) : Bool := isP P && inR xs.length 1 6 && nums P xs

theorem isP_pos {p : Int} (h : isP p = true) : 0 < p ∧ p ≤ 13 := by
  simp [isP] at h; omega

set_option maxHeartbeats 800000 in
theorem IsSpace_any (P : Int) (A : Option Addr) (n c : Nat) (xs : List Int) (w : World) (hn : n ≤ 1099511627776) (ha : Rd w A n (ints xs)) :
    Calls Tryz.prog 90 #[.agg #[.int .i64 P, .slice A n c]] w fun e w' => e = .returned (.bool (isSp P xs)) ∧ Below w.heap.size w w' := by
  have hxl : xs.length = n := by have := ha.1; rwa [ints_length] at this
  have Hx := Lib.hid hxl; clear hxl
  cases h1 : isP P
  · have H1 := Lib.hid h1; clear h1
    go_enter Tryz.func90, Tryz.ntmps90
    go_wp2
    go_quiet ((go_at_call 125; exact quiet_left' (IsPrime_b _ _ H1.out)))
    go_wp2
    go_ret
    exact ⟨ret_bool (by simp [isSp, H1.out]), below_drewN ((Below.refl _ _).alloc (Nat.le_refl _) _) _⟩
  · cases h2 : inR n 1 6
    · have H1 := Lib.hid h1
      have H2 := Lib.hid h2; clear h1 h2
      go_enter Tryz.func90, Tryz.ntmps90
      go_wp2
      go_quiet ((first | (go_at_call 125; exact quiet_left' (IsPrime_b _ _ H1.out)) | (go_at_call 127; exact quiet_left' (length_any _ _ _ _)) | (go_at_call 126; exact quiet_left' (inRange_b _ _ _ _ H2.out))))
      go_wp2
      go_ret
      exact ⟨ret_bool (by simp [isSp, H1.out, H2.out, Hx.out]), below_drewN ((Below.refl _ _).alloc (Nat.le_refl _) _) _⟩
    · have H1 := Lib.hid h1
      have H2 := Lib.hid h2
      obtain ⟨hp0, hp1⟩ := isP_pos h1
      clear h1 h2
      go_enter Tryz.func90, Tryz.ntmps90
      go_wp2
      go_region_held3 (fun w' => w'.cell? ⟨w.heap.size, 0, none⟩ = some (.int .i64 P) ∧ w'.cell? ⟨w.heap.size, 1, none⟩ = some (.slice A n c) ∧ Below w.heap.size w w')
        (first | exact keepB2 (by assumption) hb (Nat.le_refl _) | (refine ⟨?_, ?_, ((Below.refl _ _).alloc (Nat.le_refl _) _).drew⟩ <;> go_keep) | go_keep)
        (first
          | (go_at_call 125; refine (IsPrime_b _ _ H1.out).mono ?_; rintro e w' ⟨rfl, rfl⟩)
          | (go_at_call 127; refine (length_any _ _ _ _).mono ?_; rintro e w' ⟨rfl, rfl⟩)
          | (go_at_call 126; refine (inRange_b _ _ _ _ H2.out).mono ?_; rintro e w' ⟨rfl, rfl⟩)
          | (go_at_call 68; refine (field_any _ _ _ _ _).mono ?_; rintro e w' ⟨rfl, hb⟩)
          | (go_at_call 94; refine (is_any _ _ _ _ _ _ hp0 (by omega) hn (ha.below (by have := ‹_ ∧ _ ∧ Below _ _ _›; exact this.2.2))).mono ?_; rintro e w' ⟨rfl, rfl⟩))
      obtain ⟨_, _, hB⟩ := (by assumption : _ ∧ _ ∧ Below w.heap.size w w')
      go_wp2
      go_ret
      exact ⟨ret_bool (by simp [isSp, H1.out, H2.out, Hx.out]), hB⟩

end Go.Proofs.YtommppijnccomaaGreat
