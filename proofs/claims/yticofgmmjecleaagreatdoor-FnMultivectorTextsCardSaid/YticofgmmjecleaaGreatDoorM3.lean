/-
  LawFnMultivectorTexts: part 3 of the texts that the proof needs. No condition.
-/
import Derived.Test.YticofgmmjecleaaGreatDoorM2
namespace Go.Proofs.YticofgmmjecleaaGreatDoor
open Go Go.RowKit
theorem Itoa_d (i : Nat) (hi : i < 10) (w : World) : Calls Tryz.prog 114 #[.int .i64 i] w fun e w' => e = .returned (.string ⟨[UInt8.ofNat (48 + i)].toArray⟩) ∧ w = w' :=
  (Any.strconv_Itoa_small lays171 i (by omega) w).mono fun e w' ⟨h1, h2⟩ => ⟨by rw [h1, Lib.decDigits_one hi], h2.symm⟩
theorem FormatInt_any (n : Int) (h0 : -4611686018427387904 ≤ n) (h1 : n ≤ 4611686018427387904) (w : World) (he : Env w) : Calls Tryz.prog 124 #[.int .i64 n, .int .i64 10] w fun e w' => e = .returned (.string ⟨(Lib.itoa n).toArray⟩) ∧ Below w.heap.size w w' :=
  (Any.strconv_FormatInt_10 laysM173 n (by omega) (by omega) w (he.tab (by kernel_rfl))).mono fun e w' ⟨h1, k, os, h2⟩ => ⟨h1, by rw [h2]; exact Lib.below_grow _ w (Nat.le_refl _) k os⟩
theorem Cut_any (s sep : By) (w : World) (hs : s.length < 4294967281) (he : Env w) : Calls Tryz.prog 66 #[.string ⟨s.toArray⟩, .string ⟨sep.toArray⟩] w fun e w' => e = .returned (.tuple #[.string ⟨(Lib.cut s sep).1.toArray⟩, .string ⟨(Lib.cut s sep).2.1.toArray⟩, .bool (Lib.cut s sep).2.2]) ∧ Below w.heap.size w w' := by
  obtain ⟨m, hm⟩ := he.m
  exact (Any.strings_Cut lays145 ⟨s.toArray⟩ ⟨sep.toArray⟩ m w (by rw [bs_len]; omega) hm).mono fun e w' ⟨h1, k, h2⟩ => ⟨h1, by rw [h2]; exact below_drewN (Below.refl _ _) k⟩
theorem Split_any (s sep : By) (w : World) (hs : s.length < 4294967281) (h1 : 1 ≤ sep.length) (he : Env w) : Calls Tryz.prog 64 #[.string ⟨s.toArray⟩, .string ⟨sep.toArray⟩] w fun e w' =>
    e = .returned (.slice (some ⟨w.heap.size, 0, none⟩) (Lib.countB ⟨s.toArray⟩ ⟨sep.toArray⟩ + 1) (Lib.countB ⟨s.toArray⟩ ⟨sep.toArray⟩ + 1)) ∧ w' = w.alloc (.cells ((Lib.splitB ⟨sep.toArray⟩ 0 (Lib.countB ⟨s.toArray⟩ ⟨sep.toArray⟩) ⟨s.toArray⟩).map Value.string).toArray 9) := by
  obtain ⟨m, hm⟩ := he.m
  exact Any.strings_Split { laysM146 with } laysM146.i9 ⟨s.toArray⟩ ⟨sep.toArray⟩ m w (by rw [bs_len]; omega) hm (by rw [bs_len]; exact h1)
theorem ReplaceAll_any (s old new : By) (w : World) (hs : s.length ≤ 2147483648) (h1 : old.length = 1) (h2 : new.length ≤ 2) (he : Env w) : Calls Tryz.prog 65 #[.string ⟨s.toArray⟩, .string ⟨old.toArray⟩, .string ⟨new.toArray⟩] w fun e w' =>
    e = .returned (.string ⟨(Lib.replaceAll s old new).toArray⟩) ∧ Below w.heap.size w w' := by
  obtain ⟨m, hm⟩ := he.m
  have hc := Lib.countB_le ⟨old.toArray⟩ (by rw [bs_len]; omega) (ByteArray.mk s.toArray).size ⟨s.toArray⟩ (Nat.le_refl _)
  refine Any.strings_ReplaceAll { laysM155 with } extraBuild ⟨s.toArray⟩ ⟨old.toArray⟩ ⟨new.toArray⟩ m w (by rw [bs_len]; omega) hm (by rw [bs_len]; omega) ?_
  rw [bs_len] at hc
  rw [bs_len, bs_len]
  have := Nat.mul_le_mul hc h2
  omega
theorem HasPrefix_any (s p : By) (w : World) : Calls Tryz.prog 100 #[.string ⟨s.toArray⟩, .string ⟨p.toArray⟩] w fun e w' => e = .returned (.bool (Lib.hasPrefix s p)) ∧ w = w' :=
  (Any.strings_HasPrefix lays99 ⟨s.toArray⟩ ⟨p.toArray⟩ w).mono fun e w' ⟨h1, h2⟩ => ⟨h1, h2.symm⟩
end Go.Proofs.YticofgmmjecleaaGreatDoor
namespace Go.Proofs.YticofgmmjecleaaGreatDoor
open Go.RowKit
set_option maxHeartbeats 400000 in
set_option maxRecDepth 8000 in
theorem l01Prime_any (p : Int) (w : World) :
    Calls Tryz.prog 85 #[.int .i64 p] w fun e w' => e = .returned (.bool (isP p)) ∧ w = w' := by
  by_cases h3 : p = 3
  · subst h3
    go_enter Tryz.func85, Tryz.ntmps85
    go_wp2
    go_ret
    exact ⟨rfl, rfl⟩
  have b3 : (p == 3) = false := by simpa using h3
  by_cases h5 : p = 5
  · subst h5
    go_enter Tryz.func85, Tryz.ntmps85
    go_wp2
    go_ret
    exact ⟨rfl, rfl⟩
  have b5 : (p == 5) = false := by simpa using h5
  by_cases h7 : p = 7
  · subst h7
    go_enter Tryz.func85, Tryz.ntmps85
    go_wp2
    go_ret
    exact ⟨rfl, rfl⟩
  have b7 : (p == 7) = false := by simpa using h7
  by_cases h11 : p = 11
  · subst h11
    go_enter Tryz.func85, Tryz.ntmps85
    go_wp2
    go_ret
    exact ⟨rfl, rfl⟩
  have b11 : (p == 11) = false := by simpa using h11
  go_enter Tryz.func85, Tryz.ntmps85
  go_wp2
  go_ret
  exact ⟨ret_bool (by simp [isP, b3, b5, b7, b11]), rfl⟩
theorem l01Prime_b {b : Bool} (p : Int) (w : World) (h : isP p = b) :
    Calls Tryz.prog 85 #[.int .i64 p] w fun e w' => e = .returned (.bool b) ∧ w = w' := h ▸ l01Prime_any p w
set_option maxHeartbeats 400000 in
set_option maxRecDepth 8000 in
theorem l01In_any (n lo hi : Int) (w : World) :
    Calls Tryz.prog 86 #[.int .i64 n, .int .i64 lo, .int .i64 hi] w fun e w' => e = .returned (.bool (inR n lo hi)) ∧ w = w' := by
  by_cases h : lo ≤ n
  · go_enter Tryz.func86, Tryz.ntmps86
    go_wp2
    go_ret
    exact ⟨ret_bool (by simp [inR, h]), rfl⟩
  · go_enter Tryz.func86, Tryz.ntmps86
    go_wp2
    go_ret
    exact ⟨ret_bool (by simp [inR]; omega), rfl⟩
theorem l01In_b {b : Bool} (n lo hi : Int) (w : World) (h : inR n lo hi = b) :
    Calls Tryz.prog 86 #[.int .i64 n, .int .i64 lo, .int .i64 hi] w fun e w' => e = .returned (.bool b) ∧ w = w' := h ▸ l01In_any n lo hi w
set_option maxHeartbeats 400000 in
set_option maxRecDepth 8000 in
theorem l01Numbers_any (p : Int) (A : Option Addr) (n c : Nat) (xs : List Int) (w : World) (hp : 0 < p) (hp2 : p ≤ 100) (hn : n ≤ 1099511627776) (ha : Rd w A n (ints xs)) :
    Calls Tryz.prog 87 #[.int .i64 p, .slice A n c] w fun e w' => e = .returned (.bool (nums p xs)) ∧ w = w' := by
  have hxl : xs.length = n := by have := ha.1; rwa [ints_length] at this
  have Hx := Lib.hid hxl; clear hxl
  go_enter Tryz.func87, Tryz.ntmps87
  go_wp2
  go_loop [5] (fun i => ∃ k : Nat, k ≤ n ∧ i = .int .i64 k ∧ nums p (xs.take k) = true) (fun i => n - (intOf i).toNat)
  case atStart => exact ⟨0, by omega, rfl, by simp [nums]⟩
  case round =>
    obtain ⟨k, hk, rfl, ht⟩ := hrel
    have H := Lib.hid ht; clear ht
    by_cases hlt : k < n
    · obtain ⟨g, o, rfl, hx, hcx⟩ := ha.int hlt
      clear ha
      cases hi : inR xs[k] 0 (p - 1)
      all_goals
        have HI := Lib.hid hi; clear hi
        go_wp2_with (go_at_call 86; refine (l01In_b _ _ _ _ HI.out).mono ?_; rintro e w' ⟨rfl, rfl⟩)
      · go_ret
        exact ⟨ret_bool (nums_bad p xs k hx HI.out).symm, rfl⟩
      · go_round
        case rel => exact ⟨k + 1, by omega, by go_num, nums_take p xs k hx H.out HI.out⟩
        case measure => simp [intOf]; omega
    · go_wp2
      go_ret
      have := H.out
      rw [List.take_of_length_le (by rw [Hx.out]; omega)] at this
      exact ⟨ret_bool this.symm, rfl⟩
set_option maxHeartbeats 800000 in
set_option maxRecDepth 8000 in
theorem l03Is_any (P : Int) (A : Option Addr) (n c : Nat) (xs : List Int) (w : World) (hn : n ≤ 1099511627776) (ha : Rd w A n (ints xs)) :
    Calls Tryz.prog 46 #[.agg #[.int .i64 P, .slice A n c]] w fun e w' => e = .returned (.bool (isSp P xs)) ∧ Below w.heap.size w w' := by
  have hxl : xs.length = n := by have := ha.1; rwa [ints_length] at this
  have Hx := Lib.hid hxl; clear hxl
  have hB : Below w.heap.size w (w.alloc (.cells #[.int .i64 P, .slice A n c] 28)) := (Below.refl _ _).alloc (Nat.le_refl _) _
  have ha' := ha.below hB
  cases h1 : isP P
  · have H1 := Lib.hid h1; clear h1
    go_enter Tryz.func46, Tryz.ntmps46
    go_wp2_with (go_at_call 85; refine (l01Prime_b _ _ H1.out).mono ?_; rintro e w' ⟨rfl, rfl⟩)
    go_ret
    exact ⟨ret_bool (by simp [isSp, H1.out]), hB⟩
  · obtain ⟨hp0, hp1⟩ := isP_pos h1
    have H1 := Lib.hid h1; clear h1
    cases h2 : inR n 1 6
    · have H2 := Lib.hid h2; clear h2
      go_enter Tryz.func46, Tryz.ntmps46
      go_wp2_with (first | (go_at_call 85; refine (l01Prime_b _ _ H1.out).mono ?_; rintro e w' ⟨rfl, rfl⟩) | (go_at_call 86; refine (l01In_b _ _ _ _ H2.out).mono ?_; rintro e w' ⟨rfl, rfl⟩))
      go_ret
      exact ⟨ret_bool (by simp [isSp, H1.out, H2.out, Hx.out]), hB⟩
    · have H2 := Lib.hid h2; clear h2
      go_enter Tryz.func46, Tryz.ntmps46
      go_wp2_with (first | (go_at_call 85; refine (l01Prime_b _ _ H1.out).mono ?_; rintro e w' ⟨rfl, rfl⟩) | (go_at_call 86; refine (l01In_b _ _ _ _ H2.out).mono ?_; rintro e w' ⟨rfl, rfl⟩) | (go_at_call 87; refine (l01Numbers_any _ _ _ _ _ _ hp0 (by omega) hn ha').mono ?_; rintro e w' ⟨rfl, rfl⟩))
      go_ret
      exact ⟨ret_bool (by simp [isSp, H1.out, H2.out, Hx.out]), hB⟩
theorem l03Is_b {b : Bool} (P : Int) (A : Option Addr) (n c : Nat) (xs : List Int) (w : World) (hn : n ≤ 1099511627776) (ha : Rd w A n (ints xs)) (h : isSp P xs = b) :
    Calls Tryz.prog 46 #[.agg #[.int .i64 P, .slice A n c]] w fun e w' => e = .returned (.bool b) ∧ Below w.heap.size w w' := h ▸ l03Is_any P A n c xs w hn ha
end Go.Proofs.YticofgmmjecleaaGreatDoor
namespace Go.Proofs.YticofgmmjecleaaGreatDoor
open Go.RowKit
set_option maxHeartbeats 400000 in
set_option maxRecDepth 8000 in
theorem l04Size_any (P : Int) (A : Option Addr) (n c : Nat) (w : World) (hn : n ≤ 30) :
    Calls Tryz.prog 74 #[.agg #[.int .i64 P, .slice A n c]] w fun e w' => e = .returned (.int .i64 (pw n)) ∧ Below w.heap.size w w' := by
  go_enter Tryz.func74, Tryz.ntmps74
  go_wp2
  go_ret
  exact ⟨ret_int (wrap_pw n hn), (Below.refl _ _).alloc (Nat.le_refl _) _⟩
/-- Is it a multivector of a space with the squares xs? -/
def isMu (P : Int) (xs ys : List Int) : Bool := (((ys.length : Nat) : Int) == ((pw xs.length : Nat) : Int)) && nums P ys
theorem inR_16 {n : Nat} (h : inR n 1 6 = true) : 1 ≤ n ∧ n ≤ 6 := by simp [inR] at h; omega
theorem isSp_dim {P : Int} {xs : List Int} (h : isSp P xs = true) : isP P = true ∧ 1 ≤ xs.length ∧ xs.length ≤ 6 ∧ nums P xs = true := by
  simp only [isSp, Bool.and_eq_true] at h
  obtain ⟨⟨h1, h2⟩, h3⟩ := h
  obtain ⟨h4, h5⟩ := inR_16 h2
  exact ⟨h1, h4, h5, h3⟩
set_option maxHeartbeats 1000000 in
set_option maxRecDepth 8000 in
theorem l04Is_any (P : Int) (A B : Option Addr) (n c m d : Nat) (xs ys : List Int) (w : World) (hn : n ≤ 1048576) (hm : m ≤ 1048576) (ha : Rd w A n (ints xs)) (hb : Rd w B m (ints ys)) :
    Calls Tryz.prog 101 #[.agg #[.int .i64 P, .slice A n c], .slice B m d] w fun e w' => e = .returned (.bool (isSp P xs && isMu P xs ys)) ∧ Below w.heap.size w w' := by
  have hxl : xs.length = n := by have := ha.1; rwa [ints_length] at this
  have hyl : ys.length = m := by have := hb.1; rwa [ints_length] at this
  have hB : Below w.heap.size w (w.alloc (.cells #[.int .i64 P, .slice A n c] 28)) := (Below.refl _ _).alloc (Nat.le_refl _) _
  have k0 : Blk (w.alloc (.cells #[.int .i64 P, .slice A n c] 28)) w.heap.size 28 #[.int .i64 P, .slice A n c] := Blk.new _ _ _
  cases h1 : isSp P xs
  · have H1 := Lib.hid h1; clear h1
    have Hx := Lib.hid hxl; have Hy := Lib.hid hyl; clear hxl hyl
    go_enter Tryz.func101, Tryz.ntmps101
    go_wp2_with fail
    refine (l03Is_b _ _ _ _ _ _ (by omega) (ha.below hB) H1.out).mono ?_
    rintro e w1 ⟨rfl, hb1⟩
    go_wp2
    go_ret
    exact ⟨rfl, hB.trans (hb1.mono (by simp))⟩
  · obtain ⟨hp, hd1, hd2, hnum⟩ := isSp_dim h1
    obtain ⟨hp0, hp1⟩ := isP_pos hp
    have H1 := Lib.hid h1; clear h1 hp hnum
    have hmu : isMu P xs ys = ((((m : Nat) : Int) == ((pw n : Nat) : Int)) && nums P ys) := by unfold isMu; rw [hxl, hyl]
    have Hmu := Lib.hid hmu; clear hmu
    rw [hxl] at hd1 hd2
    have Hx := Lib.hid hxl; have Hy := Lib.hid hyl; clear hxl hyl
    cases h2 : (((m : Nat) : Int) == ((pw n : Nat) : Int))
    all_goals
      go_enter Tryz.func101, Tryz.ntmps101
      go_wp2_with fail
      refine (l03Is_b _ _ _ _ _ _ (by omega) (ha.below hB) H1.out).mono ?_
      rintro e w1 ⟨rfl, hb1⟩
      have k1 := k0.below hb1 k0.lt
      obtain ⟨q0, q1⟩ := k1.two
      have hB1 := hB.trans (hb1.mono (by simp))
      clear k0
      go_wp2_with fail
      refine (l04Size_any _ _ _ _ _ (by omega)).mono ?_
      rintro e w2 ⟨rfl, hb2⟩
      have k2 := k1.below hb2 k1.lt
      obtain ⟨p0, p1⟩ := k2.two
      have hB2 := hB1.trans (hb2.mono hB1.size)
      clear k1 q0 q1
      go_wp2_with fail
    · go_ret
      exact ⟨ret_bool (by rw [Hmu.out, h2]; rfl), hB2⟩
    · refine (l01Numbers_any _ _ _ _ _ _ hp0 (by omega) (by omega) (hb.below hB2)).mono ?_
      rintro e w3 ⟨rfl, rfl⟩
      go_wp2
      go_ret
      exact ⟨ret_bool (by rw [Hmu.out, h2]; rfl), hB2⟩
theorem l04Is_b {b : Bool} (P : Int) (A B : Option Addr) (n c m d : Nat) (xs ys : List Int) (w : World) (hn : n ≤ 1048576) (hm : m ≤ 1048576) (ha : Rd w A n (ints xs)) (hb : Rd w B m (ints ys)) (h : (isSp P xs && isMu P xs ys) = b) :
    Calls Tryz.prog 101 #[.agg #[.int .i64 P, .slice A n c], .slice B m d] w fun e w' => e = .returned (.bool b) ∧ Below w.heap.size w w' := h ▸ l04Is_any P A B n c m d xs ys w hn hm ha hb
end Go.Proofs.YticofgmmjecleaaGreatDoor
namespace Go.Proofs.YticofgmmjecleaaGreatDoor
open Go Go.RowKit
theorem nameTo_len (m : Nat) : ∀ k, (nameTo m k).length ≤ k + 1
  | 0 => by simp [nameTo]
  | k + 1 => by
    have := nameTo_len m k
    unfold nameTo
    split
    · simp; omega
    · omega
theorem nameTo_succ1 {m k : Nat} (h : bit m k = 1) : nameTo m (k + 1) = nameTo m k ++ [UInt8.ofNat (48 + k)] := by rw [nameTo, if_pos h]
theorem nameTo_succ0 {m k : Nat} (h : ¬ bit m k = 1) : nameTo m (k + 1) = nameTo m k := by rw [nameTo, if_neg h]
set_option maxHeartbeats 800000 in
set_option maxRecDepth 8000 in
theorem nameOf_any (P : Int) (A : Option Addr) (n c m : Nat) (w : World) (hn : n ≤ 6) (hm : m < 64) :
    Calls Tryz.prog 79 #[.agg #[.int .i64 P, .slice A n c], .int .i64 m] w fun e w' => e = .returned (.string ⟨(nameL n m).toArray⟩) ∧ Below w.heap.size w w' := by
  have hB0 : Below w.heap.size w (w.alloc (.cells #[.int .i64 P, .slice A n c] 28)) := (Below.refl _ _).alloc (Nat.le_refl _) _
  by_cases h0 : m = 0
  · subst h0
    go_enter Tryz.func79, Tryz.ntmps79
    go_wp2
    go_ret
    exact ⟨rfl, hB0⟩
  · have d0 : ((m : Int) == 0) = false := by simp; omega
    have HN : Hid (nameL n m = nameTo m n) := Lib.hid (by unfold nameL; rw [if_neg h0])
    have hdim := fun w => dim_any P A n c w
    clear h0
    go_enter Tryz.func79, Tryz.ntmps79
    go_wp2_with (go_at_call 78; refine (hdim _).mono ?_; rintro e w1 ⟨rfl, hb1⟩)
    have hB1 : Below w.heap.size w w1 := hB0.trans (hb1.mono (by simp))
    clear hb1 hdim hB0
    go_loopw [5, 11] (fun out i wr => ∃ k : Nat, k ≤ n ∧ i = .int .i64 k ∧ out = .string ⟨(nameTo m k).toArray⟩ ∧ Below w.heap.size w wr) (fun _ i _ => n - (intOf i).toNat)
    case atStart => exact ⟨0, by omega, rfl, rfl, hB1⟩
    case round =>
      obtain ⟨k, hk, rfl, rfl, hM⟩ := hrel
      clear hB1
      by_cases hlt : k < n
      · cases hb : (bits BinOp.and IntKind.i64 ((m : Int) / 2 ^ k) 1 == 1)
        · have hb' := Lib.hid (bit0 (by omega) hm hb)
          go_wp2
          go_roundw
          case rel => exact ⟨k + 1, by omega, by go_num, by rw [nameTo_succ0 hb'.out], hM⟩
          case measure => simp [intOf]; omega
        · have hb' := Lib.hid (bit1 (by omega) hm hb)
          have hit := Itoa_d k (by omega) wr
          have hl := nameTo_len m k
          obtain ⟨z, hz⟩ : ∃ z : By, z = [UInt8.ofNat (48 + k)] := ⟨_, rfl⟩
          have hzl : z.length ≤ 1 := by rw [hz]; exact Nat.le_refl 1
          have hcat := cat_bs (P := Tryz.prog) wr (nameTo m k) z (by omega) (by omega)
          rw [← hz] at hit
          have HZ := Lib.hid hz
          clear hl hz hzl
          go_wp2_with (go_at_call 114; refine hit.mono ?_; rintro e w2 ⟨rfl, rfl⟩)
          go_roundw
          case rel => exact ⟨k + 1, by omega, by go_num, by rw [nameTo_succ1 hb'.out, ← HZ.out], hM⟩
          case measure => simp [intOf]; omega
      · obtain rfl : k = n := by omega
        go_wp2
        go_ret
        exact ⟨by rw [HN.out]; rfl, hM⟩
theorem maskF_step (n : Nat) (t : By) (k i : Nat) : maskF n t (k + 1) i = if nameL n i = t then some i else maskF n t k (i + 1) := rfl
/-- The first name from i on is found, or none is. -/
theorem maskF_from (n : Nat) (t : By) : ∀ d i, (∀ j, j < i → nameL n j ≠ t) → i + d = pw n → maskOf n t = maskF n t d i
  | d, 0, _, hd => by rw [Nat.zero_add] at hd; subst hd; rfl
  | d, i + 1, h, hd => by
    rw [maskF_from n t (d + 1) i (fun j hj => h j (by omega)) (by omega), maskF_step, if_neg (h i (by omega))]
def markI (o : Option Nat) : Int := match o with
  | some m => (m : Int)
  | none => 0
set_option maxHeartbeats 1600000 in
set_option maxRecDepth 8000 in
theorem named_any (P : Int) (A : Option Addr) (n c : Nat) (t : By) (w : World) (hn : n ≤ 6) :
    Calls Tryz.prog 67 #[.agg #[.int .i64 P, .slice A n c], .string ⟨t.toArray⟩] w fun e w' => e = .returned (.tuple #[.int .i64 (markI (maskOf n t)), .bool (maskOf n t).isSome]) ∧ Below w.heap.size w w' := by
  have hB0 : Below w.heap.size w (w.alloc (.cells #[.int .i64 P, .slice A n c] 28)) := (Below.refl _ _).alloc (Nat.le_refl _) _
  have hk0 : Blk (w.alloc (.cells #[.int .i64 P, .slice A n c] 28)) w.heap.size 28 #[.int .i64 P, .slice A n c] := Blk.new _ _ _
  have hdim := fun w => dim_any P A n c w
  have hpw : pw n ≤ 64 := pw_le hn
  obtain ⟨R, hR⟩ : ∃ R, R = maskOf n t := ⟨_, rfl⟩
  have HR := Lib.hid hR
  rw [← hR]
  clear hR
  go_enter Tryz.func67, Tryz.ntmps67
  go_wp2_with (go_at_call 78; refine (hdim _).mono ?_; rintro e w1 ⟨rfl, hb1⟩)
  have hB1 : Below w.heap.size w w1 := hB0.trans (hb1.mono (by simp))
  have hk1 := hk0.below hb1 hk0.lt
  clear hb1 hdim hB0 hk0
  rw [wrap_pw n (by omega)]
  obtain ⟨N, hN⟩ : ∃ N, N = pw n := ⟨_, rfl⟩
  have HN := Lib.hid hN
  rw [← hN] at hpw ⊢
  clear hN
  go_loopw [10] (fun i wr => ∃ k : Nat, k ≤ N ∧ i = .int .i64 k ∧ (∀ j, j < k → nameL n j ≠ t) ∧ Below w1.heap.size w1 wr) (fun i _ => N - (intOf i).toNat)
  case atStart => exact ⟨0, by omega, rfl, fun j hj => absurd hj (by omega), Below.refl _ _⟩
  case round =>
    obtain ⟨k, hk, rfl, hnot, hM⟩ := hrel
    have HT := Lib.hid hnot
    clear hnot
    have hkr := hk1.below hM hk1.lt
    obtain ⟨q0, q1⟩ := hkr.two
    by_cases hlt : k < N
    · have hnm := nameOf_any P A n c k wr hn (by omega)
      have hd : maskF n t (N - k) k = if nameL n k = t then some k else maskF n t (N - (k + 1)) (k + 1) := by
        rw [show N - k = (N - (k + 1)) + 1 by omega]; rfl
      by_cases he : nameL n k = t
      · have hm : maskOf n t = some k := by rw [maskF_from n t (N - k) k HT.out (by rw [← HN.out]; omega), hd, if_pos he]
        rw [he] at hnm
        have HM := Lib.hid hm
        clear hd he hm
        go_wp2_with (go_at_call 79; refine hnm.mono ?_; rintro e w2 ⟨rfl, hb2⟩)
        go_ret2
        exact ⟨by rw [HR.out, HM.out]; rfl, hB1.trans ((hM.trans (hb2.mono hM.size)).mono hB1.size)⟩
      · obtain ⟨z, hz⟩ : ∃ z, z = nameL n k := ⟨_, rfl⟩
        rw [← hz] at hnm
        have hne : (z == t) = false := by rw [hz]; simpa using he
        have HT2 := Lib.hid (p := ∀ j, j < k + 1 → nameL n j ≠ t) (fun j hj => by
          by_cases e : j = k
          · subst e; exact he
          · exact HT.out j (by omega))
        clear hd he hz
        go_wp2_with (go_at_call 79; refine hnm.mono ?_; rintro e w2 ⟨rfl, hb2⟩)
        go_roundw
        case rel => exact ⟨k + 1, by omega, by go_num, HT2.out, hM.trans (hb2.mono hM.size)⟩
        case measure => simp [intOf]; omega
    · obtain rfl : k = N := by omega
      have hm : maskOf n t = none := by rw [maskF_from n t 0 k HT.out (by rw [← HN.out]; omega)]; rfl
      have HM := Lib.hid hm
      clear hm
      go_wp2
      go_ret2
      exact ⟨by rw [HR.out, HM.out]; rfl, hB1.trans (hM.mono hB1.size)⟩
end Go.Proofs.YticofgmmjecleaaGreatDoor
namespace Go.Proofs.YticofgmmjecleaaGreatDoor
open Go Go.RowKit
theorem dec_one {n : Nat} (h : n < 10) : Lib.decDigits n = [UInt8.ofNat (48 + n)] := by rw [Lib.decDigits, dif_pos h]
theorem dec_more {n : Nat} (h : ¬ n < 10) : Lib.decDigits n = Lib.decDigits (n / 10) ++ [UInt8.ofNat (48 + n % 10)] := by rw [Lib.decDigits, dif_neg h]
/-- A byte in a new block, read as a text. -/
theorem one_byte_text (w : World) (d : Nat) (hd : d < 10) :
    (convert 43 9 (.slice (some ⟨w.heap.size, 0, none⟩) 1 1)).run Tryz.prog (w.alloc (.cells #[.int .u8 (48 + (d : Int))] 5)) = .ok (.string ⟨[UInt8.ofNat (48 + d)].toArray⟩) (w.alloc (.cells #[.int .u8 (48 + (d : Int))] 5)) := by
  refine run_convert_bytes_back _ _ _ 5 _ 1 [UInt8.ofNat (48 + d)] Tryz.underlying43 Tryz.underlying5 Tryz.underlying9 fun j hj => ?_
  obtain rfl : j = 0 := by simpa using hj
  rw [Addr.add_lit]
  have hk := (Blk.new w 5 #[.int .u8 (48 + (d : Int))]).cell 0
  rw [Nat.zero_add]
  refine hk.trans ?_
  have : (UInt8.ofNat (48 + d)).toNat = 48 + d := by rw [UInt8.toNat_ofNat']; omega
  show some (Value.int .u8 (48 + (d : Int))) = some (.int .u8 ((UInt8.ofNat (48 + d)).toNat : Int))
  rw [this]; simp
set_option maxHeartbeats 800000 in
set_option maxRecDepth 8000 in
theorem l01Dec_small (n : Nat) (w : World) (hn : n < 10) :
    Calls Tryz.prog 113 #[.int .i64 n] w fun e w' => e = .returned (.string ⟨(Lib.decDigits n).toArray⟩) ∧ Below w.heap.size w w' := by
  have d1 : decide ((n : Int) < 10) = true := by simp; omega
  have W1 : wrap64 (48 + (n : Int)) = 48 + (n : Int) := by unfold wrap64; omega
  have W2 : IntKind.u8.wrap (48 + (n : Int)) = 48 + (n : Int) := by
    have e : IntKind.u8.wrap (48 + (n : Int)) = (48 + (n : Int)) % 256 := rfl
    rw [e]; omega
  have hcv := one_byte_text w n hn
  have hB : Below w.heap.size w (w.alloc (.cells #[.int .u8 (48 + (n : Int))] 5)) := (Below.refl _ _).alloc (Nat.le_refl _) _
  rw [dec_one hn]
  obtain ⟨z, hz⟩ : ∃ z : By, z = [UInt8.ofNat (48 + n)] := ⟨_, rfl⟩
  rw [← hz] at hcv ⊢
  clear hz
  go_enter Tryz.func113, Tryz.ntmps113
  go_wp2
  go_ret
  exact ⟨rfl, hB⟩
/-- Places beyond the dimension do not stand in a name. -/
theorem nameTo_more {n m : Nat} (hm : m < pw n) : ∀ d, nameTo m (n + d) = nameTo m n
  | 0 => rfl
  | d + 1 => by
    rw [← Nat.add_assoc, nameTo, if_neg, nameTo_more hm d]
    intro h
    have h1 : m / 2 ^ (n + d) = 0 := Nat.div_eq_of_lt (Nat.lt_of_lt_of_le hm (Nat.pow_le_pow_right (by omega) (by omega)))
    unfold bit at h
    rw [h1] at h
    simp at h
theorem nameL_six {n m : Nat} (hn : n ≤ 6) (hm : m < pw n) : nameL 6 m = nameL n m := by
  unfold nameL
  have := nameTo_more hm (6 - n)
  rw [show n + (6 - n) = 6 by omega] at this
  rw [this]
set_option maxHeartbeats 1600000 in
set_option maxRecDepth 8000 in
theorem l19Name_any (m : Nat) (w : World) (hm : m < 64) :
    Calls Tryz.prog 76 #[.int .i64 m] w fun e w' => e = .returned (.string ⟨(nameL 6 m).toArray⟩) ∧ Below w.heap.size w w' := by
  by_cases h0 : m = 0
  · subst h0
    go_enter Tryz.func76, Tryz.ntmps76
    go_wp2
    go_ret
    exact ⟨rfl, Below.refl _ _⟩
  · have d0 : ((m : Int) == 0) = false := by simp; omega
    have HN : Hid (nameL 6 m = nameTo m 6) := Lib.hid (by unfold nameL; rw [if_neg h0])
    clear h0
    go_enter Tryz.func76, Tryz.ntmps76
    go_wp2
    go_loopw [3, 4] (fun out i wr => ∃ k : Nat, k ≤ 6 ∧ i = .int .i64 k ∧ out = .string ⟨(nameTo m k).toArray⟩ ∧ Below w.heap.size w wr) (fun _ i _ => 6 - (intOf i).toNat)
    case atStart => exact ⟨0, by omega, rfl, rfl, Below.refl _ _⟩
    case round =>
      obtain ⟨k, hk, rfl, rfl, hM⟩ := hrel
      by_cases hlt : k < 6
      · cases hb : (bits BinOp.and IntKind.i64 ((m : Int) / 2 ^ k) 1 == 1)
        · have hb' := Lib.hid (bit0 (by omega) hm hb)
          go_wp2
          go_roundw
          case rel => exact ⟨k + 1, by omega, by go_num, by rw [nameTo_succ0 hb'.out], hM⟩
          case measure => simp [intOf]; omega
        · have hb' := Lib.hid (bit1 (by omega) hm hb)
          have hit := l01Dec_small k wr (by omega)
          rw [dec_one (by omega)] at hit
          have hl := nameTo_len m k
          obtain ⟨z, hz⟩ : ∃ z : By, z = [UInt8.ofNat (48 + k)] := ⟨_, rfl⟩
          have hzl : z.length ≤ 1 := by rw [hz]; exact Nat.le_refl 1
          have hcat := fun wx => cat_bs (P := Tryz.prog) wx (nameTo m k) z (by omega) (by omega)
          rw [← hz] at hit
          have HZ := Lib.hid hz
          clear hl hz hzl
          go_wp2_with (go_at_call 113; refine hit.mono ?_; rintro e w2 ⟨rfl, hb2⟩)
          go_roundw
          case rel => exact ⟨k + 1, by omega, by go_num, by rw [nameTo_succ1 hb'.out, ← HZ.out], hM.trans (hb2.mono hM.size)⟩
          case measure => simp [intOf]; omega
      · obtain rfl : k = 6 := by omega
        go_wp2
        go_ret
        exact ⟨by rw [HN.out]; rfl, hM⟩
def codeN (o : Option Nat) : Int := match o with
  | some _ => 0
  | none => 6
def monR (P : Int) (sq : List Int) (t : By) : Int × Int := if isSp P sq = true then (markI (maskOf sq.length t), codeN (maskOf sq.length t)) else (0, 1)
set_option maxHeartbeats 1600000 in
set_option maxRecDepth 8000 in
theorem specMaskOfName_any (P : Int) (A : Option Addr) (n c : Nat) (sq : List Int) (t : By) (w : World) (hn : n ≤ 1048576) (ha : Rd w A n (ints sq)) :
    Calls Tryz.prog 36 #[.agg #[.int .i64 P, .slice A n c], .string ⟨t.toArray⟩] w fun e w' => e = .returned (.tuple #[.int .i64 (monR P sq t).1, .int .i64 (monR P sq t).2]) ∧ Below w.heap.size w w' := by
  have hB0 : Below w.heap.size w (w.alloc (.cells #[.int .i64 P, .slice A n c] 28)) := (Below.refl _ _).alloc (Nat.le_refl _) _
  have hk0 : Blk (w.alloc (.cells #[.int .i64 P, .slice A n c] 28)) w.heap.size 28 #[.int .i64 P, .slice A n c] := Blk.new _ _ _
  obtain ⟨R, hR⟩ : ∃ R, R = monR P sq t := ⟨_, rfl⟩
  have HR := Lib.hid hR
  rw [← hR]
  clear hR
  have hln := ha.lenI
  cases hsp : isSp P sq
  · have his := l03Is_b P A n c sq _ (by omega) (ha.below hB0) hsp
    have hm : Hid (R = (0, 1)) := Lib.hid (by rw [HR.out]; unfold monR; rw [hsp]; rfl)
    go_enter Tryz.func36, Tryz.ntmps36
    go_wp2_with fail
    refine his.mono ?_
    rintro e w1 ⟨rfl, hb1⟩
    go_wp2
    go_ret2
    exact ⟨by rw [hm.out]; rfl, hB0.trans (hb1.mono (by simp))⟩
  · have his := l03Is_b P A n c sq _ (by omega) (ha.below hB0) hsp
    obtain ⟨hP, hd1, hd2, hnum⟩ := isSp_dim hsp
    have hn6 : n ≤ 6 := by omega
    have hpw : pw n ≤ 64 := pw_le hn6
    have hmon : Hid (R = (markI (maskOf n t), codeN (maskOf n t))) := Lib.hid (by rw [HR.out]; unfold monR; rw [hsp, hln]; rfl)
    have hszc := fun wx => l04Size_any P A n c wx (show n ≤ 30 by omega)
    obtain ⟨N, hN⟩ : ∃ N, N = pw n := ⟨_, rfl⟩
    have HN := Lib.hid hN
    rw [← hN] at hpw hszc
    have HL := Lib.hid hln
    clear hN hsp hP hnum HR hln
    go_enter Tryz.func36, Tryz.ntmps36
    go_wp2_with fail
    refine his.mono ?_
    rintro e w1 ⟨rfl, hb1⟩
    have hB1 : Below w.heap.size w w1 := hB0.trans (hb1.mono (by simp))
    have hk1 := hk0.below hb1 hk0.lt
    clear hb1 hB0 hk0
    go_wp2
    go_loopw [6] (fun i wr => ∃ k : Nat, k ≤ N ∧ i = .int .i64 k ∧ (∀ j, j < k → nameL n j ≠ t) ∧ Below w1.heap.size w1 wr) (fun i _ => N - (intOf i).toNat)
    case atStart => exact ⟨0, by omega, rfl, fun j hj => absurd hj (by omega), Below.refl _ _⟩
    case round =>
      obtain ⟨k, hk, rfl, hnot, hM⟩ := hrel
      have HT := Lib.hid hnot
      clear hnot
      have hkr := hk1.below hM hk1.lt
      obtain ⟨q0, q1⟩ := hkr.two
      go_wp2_with fail
      refine (hszc _).mono ?_
      rintro e w2 ⟨rfl, hb2⟩
      have hM2 := hM.trans (hb2.mono hM.size)
      clear hb2 hM hkr q0 q1
      by_cases hlt : k < N
      · have hnm := l19Name_any k w2 (by omega)
        rw [nameL_six hn6 (by rw [← HN.out]; exact hlt)] at hnm
        have hd : maskF n t (N - k) k = if nameL n k = t then some k else maskF n t (N - (k + 1)) (k + 1) := by
          rw [show N - k = (N - (k + 1)) + 1 by omega]; rfl
        by_cases he : nameL n k = t
        · have hm : maskOf n t = some k := by rw [maskF_from n t (N - k) k HT.out (by rw [← HN.out]; omega), hd, if_pos he]
          rw [he] at hnm
          have HM := Lib.hid hm
          clear hd he hm
          go_wp2_with (go_at_call 76; refine hnm.mono ?_; rintro e w3 ⟨rfl, hb3⟩)
          go_ret2
          exact ⟨by rw [hmon.out, HM.out]; rfl, hB1.trans ((hM2.trans (hb3.mono hM2.size)).mono hB1.size)⟩
        · obtain ⟨z, hz⟩ : ∃ z, z = nameL n k := ⟨_, rfl⟩
          rw [← hz] at hnm
          have hne : (z == t) = false := by rw [hz]; simpa using he
          have HT2 := Lib.hid (p := ∀ j, j < k + 1 → nameL n j ≠ t) (fun j hj => by
            by_cases e : j = k
            · subst e; exact he
            · exact HT.out j (by omega))
          clear hd he hz
          go_wp2_with (go_at_call 76; refine hnm.mono ?_; rintro e w3 ⟨rfl, hb3⟩)
          go_roundw
          case rel => exact ⟨k + 1, by omega, by go_num, HT2.out, hM2.trans (hb3.mono hM2.size)⟩
          case measure => simp [intOf]; omega
      · obtain rfl : k = N := by omega
        have hm : maskOf n t = none := by rw [maskF_from n t 0 k HT.out (by rw [← HN.out]; omega)]; rfl
        have HM := Lib.hid hm
        clear hm
        go_wp2
        go_ret2
        exact ⟨by rw [hmon.out, HM.out]; rfl, hB1.trans (hM2.mono hB1.size)⟩
end Go.Proofs.YticofgmmjecleaaGreatDoor
namespace Go.Proofs.YticofgmmjecleaaGreatDoor
open Go Go.RowKit
theorem str_to (w : World) (l : By) (k : Nat) (hk : k ≤ l.length) : (Instr.slice 9 (.string ⟨l.toArray⟩) none (some (.int .i64 (k : Int))) none).run Tryz.prog w = .ok (.string ⟨(l.take k).toArray⟩) w := by
  rw [run_slice_string_h w _ _ Tryz.underlying9 .i64 k (by omega) (by rw [bs_len]; omega), ByteArray.extract_mk, Int.toNat_natCast]
  rfl
theorem str_from (w : World) (l : By) (k : Nat) (hk : k ≤ l.length) : (Instr.slice 9 (.string ⟨l.toArray⟩) (some (.int .i64 (k : Int))) none none).run Tryz.prog w = .ok (.string ⟨(l.drop k).toArray⟩) w := by
  rw [run_slice_string_l w _ _ Tryz.underlying9 .i64 k (by omega) (by rw [bs_len]; omega), ByteArray.extract_mk, Int.toNat_natCast, bs_len]
  rw [List.take_of_length_le (by rw [List.length_drop]; omega)]
theorem str_at (w : World) (l : By) (k : Nat) (hk : k < l.length) : (Instr.index 9 (.string ⟨l.toArray⟩) (.int .i64 (k : Int))).run Tryz.prog w = .ok (.int .u8 (l[k]).toNat) w := by
  rw [run_index_string w _ _ .i64 k Tryz.underlying9, dif_pos ⟨by omega, by rw [bs_len]; omega⟩]
  rfl
theorem str_at0 (w : World) (l : By) (h : 0 < l.length) : (Instr.index 9 (.string ⟨l.toArray⟩) (.int .i64 0)).run Tryz.prog w = .ok (.int .u8 (l[0]).toNat) w := str_at w l 0 h
theorem str_len (w : World) (ty : TypeId) (l : By) : (Builtin.len_ #[9] ty #[.string ⟨l.toArray⟩]).run Tryz.prog w = .ok (.int .i64 l.length) w := by
  rw [run_len_string w _ _ _ Tryz.underlying9, bs_len]
  rfl
end Go.Proofs.YticofgmmjecleaaGreatDoor
namespace Go.Proofs.YticofgmmjecleaaGreatDoor
open Go Go.RowKit
theorem cat_big {P : Program} (w : World) (x y : By) (h : x.length + y.length ≤ 9223372036854775807) : (Op.stringOp .add ⟨x.toArray⟩ ⟨y.toArray⟩).run P w = .ok (.string ⟨(x ++ y).toArray⟩) w := by
  rw [run_string_add_sum w _ _ (by rw [bs_len, bs_len]; omega), ByteArray.mk_append_mk]
theorem eqM_step {a b : Int} (h : eqM a b) : eqM (gI a) (gI b) := it_mod 1 h
theorem eqM_trans {a b c : Int} (h : eqM a b) (h' : eqM b c) : eqM a c := Eq.trans h h'
theorem pl_mono {pl nb : Nat} : pl ≤ (if pl < nb then pl + 1 else pl) := by split <;> omega
def dmgL : List By := [[48], [49], [50], [53], [57], [45], [43], [42], [94], [46], [126], [40], [41], [101], [32], [44], [101, 48], [101, 49], [120], [59], [58], [10]]
def txtCells (l : List By) : Array Value := (l.map fun t => Value.string ⟨t.toArray⟩).toArray
theorem txt_cell {w : World} {b : Nat} {T : TypeId} {l : List By} (h : Blk w b T (txtCells l)) {k : Nat} (hk : k < l.length) : w.cell? ⟨b, k, none⟩ = some (.string ⟨l[k].toArray⟩) := by
  refine (h.cell k).trans ?_
  simp [txtCells, hk]
theorem dmgL_len : ∀ t ∈ dmgL, t.length ≤ 2 := by decide
def DmgPost (g : Nat) (nb pl : Nat) (h : Int) (t : By) (w : World) (e : Ending) (w' : World) : Prop :=
  ∃ t' : By, e = .returned (.string ⟨t'.toArray⟩) ∧ t'.length ≤ t.length + 2 ∧ Dr g 121 w w' ∧ ∃ (pl' : Nat) (h' : Int), SrcA w' g 121 nb pl' h' ∧ pl ≤ pl' ∧ ((t.length = 0 ∧ eqM h' (gI h)) ∨ eqM h' (itI 3 h))
theorem Dr.drewN {w w' : World} {g : Nat} {T : TypeId} (h : Dr g T w w') (n : Nat) : Dr g T w (w'.drewN n) := h.then (below_drewN (Below.refl _ _) n)
theorem SrcA.drewN {w : World} {g : Nat} {T : TypeId} {nb pl : Nat} {h : Int} (s : SrcA w g T nb pl h) (n : Nat) : SrcA (w.drewN n) g T nb pl h := s.below (below_drewN (Below.refl _ _) n)
set_option maxHeartbeats 3200000 in
set_option maxRecDepth 8000 in
theorem damage_at (g nb pl : Nat) (h : Int) (t : By) (w : World) (hs : SrcA w g 121 nb pl h) (ht : t.length ≤ 1152921504606846976) :
    Calls Tryz.prog 73 #[.pointer (some ⟨g, 0, none⟩), .string ⟨t.toArray⟩] w fun e w' => DmgPost g nb pl h t w e w' := by
  have hd0 := (Dr.refl hs.src).alloc (.cells (txtCells dmgL) 9)
  have hs0 := hs.below ((Below.refl w.heap.size w).alloc (Nat.le_refl _) (.cells (txtCells dmgL) 9))
  have kb0 : Blk (w.alloc (.cells (txtCells dmgL) 9)) w.heap.size 9 (txtCells dmgL) := Blk.new _ _ _
  have hnx := next_at g 22 nb pl h _ hs0 (by omega) (by omega)
  have hln := fun wx ty => str_len wx ty t
  have HD0 := Lib.hid hd0
  have HK0 := Lib.hid kb0
  clear hd0 hs0 kb0 hs
  go_enter Tryz.func73, Tryz.ntmps73
  go_wp2_with fail
  refine hnx.mono ?_
  rintro e w1 ⟨r, rfl, hr0, hr1, hd1, pl1, h1, hs1, hp1, he1, -⟩
  clear hnx
  obtain ⟨r, rfl⟩ : ∃ m : Nat, r = m := ⟨r.toNat, by omega⟩
  have hrl : r < dmgL.length := by show r < 22; omega
  have kb1 := HK0.out.dr hd1 (by decide)
  have hcell := txt_cell kb1 hrl
  have hcl := dmgL_len dmgL[r] (List.getElem_mem hrl)
  have HD1 := Lib.hid (HD0.out.trans hd1)
  obtain ⟨c, hc⟩ : ∃ c, c = dmgL[r] := ⟨_, rfl⟩
  rw [← hc] at hcell hcl
  have HP1 : Hid (pl ≤ pl1) := Lib.hid (by rw [hp1]; exact pl_mono)
  have HE1 := Lib.hid he1
  clear hd1 kb1 hrl hc hp1 he1 HK0 HD0
  by_cases h0 : t.length = 0
  · have d0 : ((t.length : Int) == 0) = true := by simp [h0]
    have HS1 := Lib.hid hs1
    have HC := Lib.hid hcl
    clear hs1 hcl
    go_wp2
    go_ret
    exact ⟨c, rfl, by have := HC.out; omega, HD1.out, pl1, h1, HS1.out, HP1.out, .inl ⟨h0, HE1.out⟩⟩
  have d0 : ((t.length : Int) == 0) = false := by rw [beq_eq_false_iff_ne]; omega
  have hnx := next_at g (t.length : Int) nb pl1 h1 w1 hs1 (by omega) (by omega)
  have HC := Lib.hid hcl
  clear hs1 hcl
  go_wp2_with fail
  refine hnx.mono ?_
  rintro e w2 ⟨k, rfl, hk0, hk1, hd2, pl2, h2, hs2, hp2, he2, -⟩
  clear hnx hcell
  obtain ⟨k, rfl⟩ : ∃ m : Nat, k = m := ⟨k.toNat, by omega⟩
  have hkl : k < t.length := by omega
  have HD2 := Lib.hid (HD1.out.trans hd2)
  have HP2 : Hid (pl ≤ pl2) := Lib.hid (Nat.le_trans HP1.out (by rw [hp2]; exact pl_mono))
  have HE2 : Hid (eqM h2 (gI (gI h))) := Lib.hid (eqM_trans he2 (eqM_step HE1.out))
  clear hd2 hp2 he2 HD1 HP1 HE1
  have hnx := next_at g 3 nb pl2 h2 w2 hs2 (by omega) (by omega)
  clear hs2
  go_wp2_with fail
  refine hnx.mono ?_
  rintro e w3 ⟨q, rfl, hq0, hq1, hd3, pl3, h3, hs3, hp3, he3, -⟩
  clear hnx
  have HD3 := Lib.hid (HD2.out.trans hd3)
  have HP3 : Hid (pl ≤ pl3) := Lib.hid (Nat.le_trans HP2.out (by rw [hp3]; exact pl_mono))
  have HE3 : Hid (eqM h3 (itI 3 h)) := Lib.hid (eqM_trans he3 (eqM_step HE2.out))
  have HS3 := Lib.hid hs3
  clear hd3 hp3 he3 HD2 HP2 HE2 hs3
  have W0 : wrap64 ((k : Int) + 1) = (k : Int) + 1 := by unfold wrap64; omega
  have W : IntKind.i64.wrap ((k : Int) + 1) = (k : Int) + 1 := by rw [IntWalk.i64_left]; exact W0
  have f1 := fun wx => str_to wx t k (by omega)
  have f2 : ∀ wx, (Instr.slice 9 (.string ⟨t.toArray⟩) (some (.int .i64 ((k : Int) + 1))) none none).run Tryz.prog wx = .ok (.string ⟨(t.drop (k + 1)).toArray⟩) wx := fun wx => str_from wx t (k + 1) (by omega)
  have f3 := fun wx => str_from wx t k (by omega)
  have l1 : (t.take k).length = k := by rw [List.length_take]; omega
  have l2 : (t.drop (k + 1)).length = t.length - (k + 1) := List.length_drop
  have l3 : (t.drop k).length = t.length - k := List.length_drop
  generalize t.take k = a at *
  generalize t.drop (k + 1) = b at *
  generalize t.drop k = d at *
  have hcl := HC.out
  have g1 := fun wx => cat_big (P := Tryz.prog) wx a c (by omega)
  have g2 := fun wx => cat_big (P := Tryz.prog) wx (a ++ c) b (by rw [List.length_append]; omega)
  have g3 := fun wx => cat_big (P := Tryz.prog) wx a b (by omega)
  have g4 := fun wx => cat_big (P := Tryz.prog) wx (a ++ c) d (by rw [List.length_append]; omega)
  have HL1 : Hid ((a ++ c ++ b).length ≤ t.length + 2) := Lib.hid (by rw [List.length_append, List.length_append]; omega)
  have HL2 : Hid ((a ++ b).length ≤ t.length + 2) := Lib.hid (by rw [List.length_append]; omega)
  have HL3 : Hid ((a ++ c ++ d).length ≤ t.length + 2) := Lib.hid (by rw [List.length_append, List.length_append]; omega)
  generalize a ++ c ++ b = z1 at *
  generalize a ++ c ++ d = z3 at *
  generalize a ++ c = ac at *
  generalize a ++ b = z2 at *
  clear l1 l2 l3 hcl HC ht d0 h0 hkl hk1
  by_cases e0 : q = 0
  · subst e0
    go_wp2
    go_quiet (fail)
    go_wp2
    go_ret
    exact ⟨_, rfl, HL1.out, HD3.out.drewN _, pl3, h3, HS3.out.drewN _, HP3.out, .inr HE3.out⟩
  · have q0 : (q == 0) = false := by simpa using e0
    by_cases e1 : q = 1
    · subst e1
      go_wp2
      go_quiet (fail)
      go_wp2
      go_ret
      exact ⟨_, rfl, HL2.out, HD3.out.drewN _, pl3, h3, HS3.out.drewN _, HP3.out, .inr HE3.out⟩
    · have q1 : (q == 1) = false := by simpa using e1
      go_wp2
      go_quiet (fail)
      go_wp2
      go_ret
      exact ⟨_, rfl, HL3.out, HD3.out.drewN _, pl3, h3, HS3.out.drewN _, HP3.out, .inr HE3.out⟩
end Go.Proofs.YticofgmmjecleaaGreatDoor
namespace Go.Proofs.YticofgmmjecleaaGreatDoor
open Go.RowKit
set_option maxHeartbeats 1000000 in
set_option maxRecDepth 8000 in
theorem isMulti_any (P : Int) (A B : Option Addr) (n c m d : Nat) (xs ys : List Int) (w : World) (hn : n ≤ 6) (hxl : xs.length = n) (hm : m ≤ 1048576) (hp0 : 0 < P) (hp1 : P ≤ 13) (hb : Rd w B m (ints ys)) :
    Calls Tryz.prog 98 #[.agg #[.int .i64 P, .slice A n c], .slice B m d] w fun e w' => e = .returned (.bool (isMu P xs ys)) ∧ Below w.heap.size w w' := by
  have hyl : ys.length = m := by have := hb.1; rwa [ints_length] at this
  have hmu : isMu P xs ys = ((((m : Nat) : Int) == ((pw n : Nat) : Int)) && nums P ys) := by unfold isMu; rw [hxl, hyl]
  have Hmu := Lib.hid hmu
  have hB : Below w.heap.size w (w.alloc (.cells #[.int .i64 P, .slice A n c] 28)) := (Below.refl _ _).alloc (Nat.le_refl _) _
  have k0 : Blk (w.alloc (.cells #[.int .i64 P, .slice A n c] 28)) w.heap.size 28 #[.int .i64 P, .slice A n c] := Blk.new _ _ _
  have hw := wrap_pw n (by omega)
  clear hmu hxl hyl
  cases h2 : (((m : Nat) : Int) == ((pw n : Nat) : Int))
  all_goals
    have H2 := Lib.hid h2
    rw [← hw] at h2
    have Hw := Lib.hid hw
    clear hw
    go_enter Tryz.func98, Tryz.ntmps98
    go_wp2_with fail
    refine (dim_any _ _ _ _ _).mono ?_
    rintro e w1 ⟨rfl, hb1⟩
    have k1 := k0.below hb1 k0.lt
    obtain ⟨q0, q1⟩ := k1.two
    have hB1 := hB.trans (hb1.mono (by simp))
    clear k0
    go_wp2_with fail
  · go_ret
    exact ⟨ret_bool (by rw [Hmu.out, H2.out]; rfl), hB1⟩
  · refine (field_any _ _ _ _ _).mono ?_
    rintro e w2 ⟨rfl, hb2⟩
    have hB2 := hB1.trans (hb2.mono hB1.size)
    go_wp2_with fail
    refine (is_any _ _ _ _ _ _ hp0 (by omega) (by omega) (hb.below hB2)).mono ?_
    rintro e w3 ⟨rfl, rfl⟩
    go_wp2
    go_ret
    exact ⟨ret_bool (by rw [Hmu.out, H2.out]; rfl), hB2⟩
theorem IsSpace_b {b : Bool} (P : Int) (A : Option Addr) (n c : Nat) (xs : List Int) (w : World) (hn : n ≤ 1099511627776) (ha : Rd w A n (ints xs)) (h : isSp P xs = b) :
    Calls Tryz.prog 49 #[.agg #[.int .i64 P, .slice A n c]] w fun e w' => e = .returned (.bool b) ∧ Below w.heap.size w w' := h ▸ IsSpace_any P A n c xs w hn ha
end Go.Proofs.YticofgmmjecleaaGreatDoor
namespace Go.Proofs.YticofgmmjecleaaGreatDoor
open Go.RowKit
/-- The code of a space and of multivectors. -/
def codeM (P : Int) (sq : List Int) (yss : List (List Int)) : Int := if isSp P sq then (if yss.any fun ys => !(isMu P sq ys) then 2 else 0) else 1
set_option maxHeartbeats 800000 in
set_option maxRecDepth 8000 in
theorem notMu (P : Int) (n : Nat) (g : Nat) (A : Option Addr) (c : Nat) (sq : List Int) (w : World) (hn : n ≤ 6) (hsq : sq.length = n) (hp0 : 0 < P) (hp1 : P ≤ 13) (hk : Blk w g 28 #[.int .i64 P, .slice A n c]) :
    Tells 97 #[.pointer (some ⟨g, 0, none⟩)] w (fun ys => !(isMu P sq ys)) (fun ys => ys.length ≤ 1048576) := by
  intro w' D m d ys hb hr hm
  have hyl : ys.length = m := by have := hr.1; rwa [ints_length] at this
  rw [hyl] at hm
  have k0 := hk.below hb hk.lt
  obtain ⟨q0, q1⟩ := k0.two
  have Hsq := Lib.hid hsq
  clear hyl hsq
  simp only [List.append_toArray, List.cons_append, List.nil_append]
  go_enter Tryz.func97, Tryz.ntmps97
  go_wp2_with fail
  refine (isMulti_any P A D n c m d sq ys _ hn Hsq.out hm hp0 hp1 hr).mono ?_
  rintro e w1 ⟨rfl, hb1⟩
  obtain ⟨b, hb'⟩ : ∃ b, b = isMu P sq ys := ⟨_, rfl⟩
  rw [← hb']
  have HB := Lib.hid hb'; clear hb'
  go_wp2
  go_ret
  exact ⟨ret_bool (by rw [HB.out]), hb1⟩
set_option maxRecDepth 8000 in
set_option maxHeartbeats 1000000 in
set_option maxRecDepth 8000 in
theorem checkMultis_any (P : Int) (A B : Option Addr) (n c m d : Nat) (sq : List Int) (yss : List (List Int)) (w : World) (hn : n ≤ 1048576) (hm : m ≤ 1048576) (ha : Rd w A n (ints sq)) (hb : RdII w B m yss) (hys : ∀ ys ∈ yss, ys.length ≤ 1048576) :
    Calls Tryz.prog 60 #[.agg #[.int .i64 P, .slice A n c], .slice B m d] w fun e w' => e = .returned (.int .i64 (codeM P sq yss)) ∧ Below w.heap.size w w' := by
  have hxl : sq.length = n := by have := ha.1; rwa [ints_length] at this
  have hB : Below w.heap.size w (w.alloc (.cells #[.int .i64 P, .slice A n c] 28)) := (Below.refl _ _).alloc (Nat.le_refl _) _
  have k0 : Blk (w.alloc (.cells #[.int .i64 P, .slice A n c] 28)) w.heap.size 28 #[.int .i64 P, .slice A n c] := Blk.new _ _ _
  have hmf : ∀ (fn : Fn) (first cap : Array Value) (w : World), (Instr.makeFunc fn first cap).run Tryz.prog w = .ok (.func fn first cap) w := fun _ _ _ _ => rfl
  cases h1 : isSp P sq
  · have H1 := Lib.hid h1; clear h1 hxl
    go_enter Tryz.func60, Tryz.ntmps60
    go_wp2_with fail
    refine (IsSpace_b _ _ _ _ _ _ (by omega) (ha.below hB) H1.out).mono ?_
    rintro e w1 ⟨rfl, hb1⟩
    go_wp2
    go_ret
    exact ⟨ret_int (by unfold codeM; rw [H1.out]; rfl), hB.trans (hb1.mono (by simp))⟩
  obtain ⟨hp, hd1, hd2, -⟩ := isSp_dim h1
  obtain ⟨hp0, hp1⟩ := isP_pos hp
  rw [hxl] at hd1 hd2
  have H1 := Lib.hid h1; have Hx := Lib.hid hxl; clear h1 hp hxl
  cases h2 : (yss.any fun ys => !(isMu P sq ys))
  all_goals
    have H2 := Lib.hid h2; clear h2
    go_enter Tryz.func60, Tryz.ntmps60
    go_wp2_with fail
    refine (IsSpace_b _ _ _ _ _ _ (by omega) (ha.below hB) H1.out).mono ?_
    rintro e w1 ⟨rfl, hb1⟩
    have hB1 := hB.trans (hb1.mono (by simp))
    have hT := notMu P n w.heap.size A c sq w1 (by omega) Hx.out hp0 hp1 (k0.below hb1 k0.lt)
    go_wp2_with fail
    refine (ContainsFunc_any _ _ _ _ _ _ _ _ _ (by omega) (hb.below hB1) hys hT (fun _ _ => rfl)).mono ?_
    rintro e w2 ⟨rfl, hb2⟩
    rw [H2.out]
    go_wp2
    go_ret
    exact ⟨ret_int (by unfold codeM; rw [H1.out, H2.out]; rfl), hB1.trans (hb2.mono hB1.size)⟩
theorem any_take_succ {α : Type} {q : α → Bool} {xs : List α} {k : Nat} (hk : k < xs.length) (h : (xs.take k).any q = false) (h2 : q xs[k] = false) : (xs.take (k + 1)).any q = false := by
  rw [List.take_succ_eq_append_getElem hk, List.any_append, h]; simpa using h2
set_option maxRecDepth 8000 in
set_option maxHeartbeats 1600000 in
set_option maxRecDepth 8000 in
theorem l04Code_any (P : Int) (A B : Option Addr) (n c m d : Nat) (sq : List Int) (yss : List (List Int)) (w : World) (hn : n ≤ 1048576) (hm : m ≤ 1048576) (ha : Rd w A n (ints sq)) (hb : RdII w B m yss) (hys : ∀ ys ∈ yss, ys.length ≤ 1048576) :
    Calls Tryz.prog 62 #[.agg #[.int .i64 P, .slice A n c], .slice B m d] w fun e w' => e = .returned (.int .i64 (codeM P sq yss)) ∧ Below w.heap.size w w' := by
  have hyl := hb.len
  have hB : Below w.heap.size w (w.alloc (.cells #[.int .i64 P, .slice A n c] 28)) := (Below.refl _ _).alloc (Nat.le_refl _) _
  have k0 : Blk (w.alloc (.cells #[.int .i64 P, .slice A n c] 28)) w.heap.size 28 #[.int .i64 P, .slice A n c] := Blk.new _ _ _
  have HY := Lib.hid hyl; clear hyl
  cases h1 : isSp P sq
  · have H1 := Lib.hid h1; clear h1
    go_enter Tryz.func62, Tryz.ntmps62
    go_wp2_with fail
    refine (l03Is_b _ _ _ _ _ _ (by omega) (ha.below hB) H1.out).mono ?_
    rintro e w1 ⟨rfl, hb1⟩
    go_wp2
    go_ret
    exact ⟨ret_int (by unfold codeM; rw [H1.out]; rfl), hB.trans (hb1.mono (by simp))⟩
  have H1 := Lib.hid h1; clear h1
  go_enter Tryz.func62, Tryz.ntmps62
  go_wp2_with fail
  refine (l03Is_b _ _ _ _ _ _ (by omega) (ha.below hB) H1.out).mono ?_
  rintro e w1 ⟨rfl, hb1⟩
  have hB1 := hB.trans (hb1.mono (by simp))
  have k1 := k0.below hb1 k0.lt
  clear k0 hb1 hB
  go_wp2_with fail
  go_loopw [5] (fun i wr => ∃ k : Nat, k ≤ m ∧ i = .int .i64 k ∧ (yss.take k).any (fun ys => !(isMu P sq ys)) = false ∧ Blk wr w.heap.size 28 #[.int .i64 P, .slice A n c] ∧ Below w.heap.size w wr) (fun i _ => m - (intOf i).toNat)
  case atStart => exact ⟨0, by omega, rfl, by simp, k1, hB1⟩
  case round =>
    obtain ⟨k, hk, rfl, ht, hk2, hBr⟩ := hrel
    have HT := Lib.hid ht
    clear k1 hB1 ht
    by_cases hlt : k < m
    · obtain ⟨g, o, rfl, hxk, A', c', hcx, hr, hcc⟩ := (hb.below hBr).at_ hlt
      have hr := (hb.at_ hlt)
      obtain ⟨g', o', e', hx', A'', c'', hcw, hrw, _⟩ := hr
      have hr0 : Rd w A' yss[k].length (ints yss[k]) := by
        injection e' with e'; injection e' with e1 e2 _
        subst e1; subst e2
        have := (hBr.cell (World.block_lt_of_cell? _ _ hcw)).trans hcw
        rw [hcx] at this
        injection this with this
        injection this with e3 _ _
        rw [e3]; exact hrw
      clear hcw hrw e' hr
      have hr := hr0
      clear hr0
      have HL := hys yss[k] (List.getElem_mem hxk)
      have i1 : (0 : Int) ≤ (k : Int) := by omega
      have i2 : (k : Int) < (m : Int) := by omega
      cases hi : (isSp P sq && isMu P sq yss[k])
      · have HI := Lib.hid hi
        clear hi
        go_wp2
        refine wp_obs 7 [[], [], [], [1, 2], [1, 2, 3], [0, 1, 2, 3, 4], [0, 1, 2, 3, 4, 5]] [VIs (.agg #[.int .i64 P, .slice A n c]), VIs (.slice (some ⟨g, o, none⟩) m d), VIs (.int .i64 k), VIs (.pointer (some ⟨g, o + k, none⟩)), VIs (.slice A' yss[k].length c'), VIs (.bool false), VIs (.bool true)] (fun w' => Blk w' w.heap.size 28 #[.int .i64 P, .slice A n c] ∧ Below w.heap.size w w' ∧ w'.cell? ⟨g, o + k, none⟩ = some (.slice A' yss[k].length c')) (by kernel_rfl) (by kernel_rfl) (fun _ _ h hb => ⟨h.1.below hb h.1.lt, h.2.1.trans (hb.mono h.2.1.size), (hb.cell (World.block_lt_of_cell? _ _ h.2.2)).trans h.2.2⟩) (⟨hk2.drew, hBr.drew, hcx⟩) (fun x => ?_)
        refine obs_step (Eq.trans (by simp only [List.getElem?_toArray, List.getElem?_cons_zero]; exact rfl) rfl) rfl (fun w' hS hV K hK => ?_) ?_
        · obtain ⟨q0, q1⟩ := hS.1.two; have q2 := hS.2.2
          go_simp
          exact hK.out _ _ _ rfl rfl rfl (Below.refl _ _)
        simp only [List.setIfInBounds_toArray, List.set_cons_zero, List.set_cons_succ]
        refine obs_step (Eq.trans (by simp only [List.getElem?_toArray, List.getElem?_cons_succ, List.getElem?_cons_zero]; exact rfl) rfl) rfl (fun w' hS hV K hK => ?_) ?_
        · obtain ⟨q0, q1⟩ := hS.1.two; have q2 := hS.2.2
          go_simp
          exact hK.out _ _ _ rfl rfl rfl (Below.refl _ _)
        simp only [List.setIfInBounds_toArray, List.set_cons_zero, List.set_cons_succ]
        refine obs_step (Eq.trans (by simp only [List.getElem?_toArray, List.getElem?_cons_succ, List.getElem?_cons_zero]; exact rfl) rfl) rfl (fun w' hS hV K hK => ?_) ?_
        · obtain ⟨q0, q1⟩ := hS.1.two; have q2 := hS.2.2
          go_simp
          exact hK.out _ _ _ rfl rfl rfl (Below.refl _ _)
        simp only [List.setIfInBounds_toArray, List.set_cons_zero, List.set_cons_succ]
        refine obs_step (Eq.trans (by simp only [List.getElem?_toArray, List.getElem?_cons_succ, List.getElem?_cons_zero]; exact rfl) rfl) rfl (fun w' hS hV K hK => ?_) ?_
        · simp only [List.mem_cons, List.not_mem_nil, or_false, forall_eq_or_imp, forall_eq, List.getD_cons_succ, List.getD_cons_zero, VIs, VAny] at hV
          obtain ⟨e1, e2⟩ := hV
          obtain ⟨q0, q1⟩ := hS.1.two; have q2 := hS.2.2
          go_simp
          exact hK.out _ _ _ rfl rfl rfl (Below.refl _ _)
        simp only [List.setIfInBounds_toArray, List.set_cons_zero, List.set_cons_succ]
        refine obs_step (Eq.trans (by simp only [List.getElem?_toArray, List.getElem?_cons_succ, List.getElem?_cons_zero]; exact rfl) rfl) rfl (fun w' hS hV K hK => ?_) ?_
        · simp only [List.mem_cons, List.not_mem_nil, or_false, forall_eq_or_imp, forall_eq, List.getD_cons_succ, List.getD_cons_zero, VIs, VAny] at hV
          obtain ⟨e1, e2, e3⟩ := hV
          obtain ⟨q0, q1⟩ := hS.1.two; have q2 := hS.2.2
          go_simp
          exact hK.out _ _ _ rfl rfl rfl (Below.refl _ _)
        simp only [List.setIfInBounds_toArray, List.set_cons_zero, List.set_cons_succ]
        refine obs_step (Eq.trans (by simp only [List.getElem?_toArray, List.getElem?_cons_succ, List.getElem?_cons_zero]; exact rfl) rfl) rfl (fun w' hS hV K hK => ?_) ?_
        · simp only [List.mem_cons, List.not_mem_nil, or_false, forall_eq_or_imp, forall_eq, List.getD_cons_succ, List.getD_cons_zero, VIs, VAny] at hV
          obtain ⟨e0, e1, e2, e3, e4⟩ := hV
          obtain ⟨q0, q1⟩ := hS.1.two; have q2 := hS.2.2
          go_simp
          refine (l04Is_b P A A' n c _ c' sq yss[k] _ hn HL (ha.below hS.2.1) (hr.below hS.2.1) HI.out).mono ?_
          rintro e w1 ⟨rfl, hb⟩
          exact hK.out _ _ _ rfl rfl rfl hb
        simp only [List.setIfInBounds_toArray, List.set_cons_zero, List.set_cons_succ]
        refine obs_step (Eq.trans (by simp only [List.getElem?_toArray, List.getElem?_cons_succ, List.getElem?_cons_zero]; exact rfl) rfl) rfl (fun w' hS hV K hK => ?_) ?_
        · simp only [List.mem_cons, List.not_mem_nil, or_false, forall_eq_or_imp, forall_eq, List.getD_cons_succ, List.getD_cons_zero, VIs, VAny] at hV
          obtain ⟨e0, e1, e2, e3, e4, e5⟩ := hV
          obtain ⟨q0, q1⟩ := hS.1.two; have q2 := hS.2.2
          go_simp
          exact hK.out _ _ _ rfl rfl rfl (Below.refl _ _)
        simp only [List.setIfInBounds_toArray, List.set_cons_zero, List.set_cons_succ]
        refine fun w' hS hV => ?_
        have hV := fun i hi => hV i (List.mem_range.1 hi)
        simp only [List.range, List.range.loop, List.mem_cons, List.not_mem_nil, or_false, forall_eq_or_imp, forall_eq, List.getD_cons_succ, List.getD_cons_zero, VIs, VAny] at hV
        obtain ⟨e0, e1, e2, e3, e4, e5, e6⟩ := hV
        simp only [e0, e1, e2, e3, e4, e5, e6]
        clear e0 e1 e2 e3 e4 e5 e6
        refine wpAny_done (by kernel_rfl) ?_ _
        go_wp2
        go_ret
        refine ⟨ret_int ?_, hS.2.1⟩
        have hmu : isMu P sq yss[k] = false := by have := HI.out; rw [H1.out] at this; simpa using this
        have : (yss.any fun ys => !(isMu P sq ys)) = true := List.any_eq_true.2 ⟨yss[k], List.getElem_mem hxk, by rw [hmu]; rfl⟩
        unfold codeM
        rw [H1.out, if_pos rfl, if_pos this]
      · have HI := Lib.hid hi
        clear hi
        go_wp2
        refine wp_obs 7 [[], [], [], [1, 2], [1, 2, 3], [0, 1, 2, 3, 4], [0, 1, 2, 3, 4, 5]] [VIs (.agg #[.int .i64 P, .slice A n c]), VIs (.slice (some ⟨g, o, none⟩) m d), VIs (.int .i64 k), VIs (.pointer (some ⟨g, o + k, none⟩)), VIs (.slice A' yss[k].length c'), VIs (.bool true), VIs (.bool false)] (fun w' => Blk w' w.heap.size 28 #[.int .i64 P, .slice A n c] ∧ Below w.heap.size w w' ∧ w'.cell? ⟨g, o + k, none⟩ = some (.slice A' yss[k].length c')) (by kernel_rfl) (by kernel_rfl) (fun _ _ h hb => ⟨h.1.below hb h.1.lt, h.2.1.trans (hb.mono h.2.1.size), (hb.cell (World.block_lt_of_cell? _ _ h.2.2)).trans h.2.2⟩) (⟨hk2.drew, hBr.drew, hcx⟩) (fun x => ?_)
        refine obs_step (Eq.trans (by simp only [List.getElem?_toArray, List.getElem?_cons_zero]; exact rfl) rfl) rfl (fun w' hS hV K hK => ?_) ?_
        · obtain ⟨q0, q1⟩ := hS.1.two; have q2 := hS.2.2
          go_simp
          exact hK.out _ _ _ rfl rfl rfl (Below.refl _ _)
        simp only [List.setIfInBounds_toArray, List.set_cons_zero, List.set_cons_succ]
        refine obs_step (Eq.trans (by simp only [List.getElem?_toArray, List.getElem?_cons_succ, List.getElem?_cons_zero]; exact rfl) rfl) rfl (fun w' hS hV K hK => ?_) ?_
        · obtain ⟨q0, q1⟩ := hS.1.two; have q2 := hS.2.2
          go_simp
          exact hK.out _ _ _ rfl rfl rfl (Below.refl _ _)
        simp only [List.setIfInBounds_toArray, List.set_cons_zero, List.set_cons_succ]
        refine obs_step (Eq.trans (by simp only [List.getElem?_toArray, List.getElem?_cons_succ, List.getElem?_cons_zero]; exact rfl) rfl) rfl (fun w' hS hV K hK => ?_) ?_
        · obtain ⟨q0, q1⟩ := hS.1.two; have q2 := hS.2.2
          go_simp
          exact hK.out _ _ _ rfl rfl rfl (Below.refl _ _)
        simp only [List.setIfInBounds_toArray, List.set_cons_zero, List.set_cons_succ]
        refine obs_step (Eq.trans (by simp only [List.getElem?_toArray, List.getElem?_cons_succ, List.getElem?_cons_zero]; exact rfl) rfl) rfl (fun w' hS hV K hK => ?_) ?_
        · simp only [List.mem_cons, List.not_mem_nil, or_false, forall_eq_or_imp, forall_eq, List.getD_cons_succ, List.getD_cons_zero, VIs, VAny] at hV
          obtain ⟨e1, e2⟩ := hV
          obtain ⟨q0, q1⟩ := hS.1.two; have q2 := hS.2.2
          go_simp
          exact hK.out _ _ _ rfl rfl rfl (Below.refl _ _)
        simp only [List.setIfInBounds_toArray, List.set_cons_zero, List.set_cons_succ]
        refine obs_step (Eq.trans (by simp only [List.getElem?_toArray, List.getElem?_cons_succ, List.getElem?_cons_zero]; exact rfl) rfl) rfl (fun w' hS hV K hK => ?_) ?_
        · simp only [List.mem_cons, List.not_mem_nil, or_false, forall_eq_or_imp, forall_eq, List.getD_cons_succ, List.getD_cons_zero, VIs, VAny] at hV
          obtain ⟨e1, e2, e3⟩ := hV
          obtain ⟨q0, q1⟩ := hS.1.two; have q2 := hS.2.2
          go_simp
          exact hK.out _ _ _ rfl rfl rfl (Below.refl _ _)
        simp only [List.setIfInBounds_toArray, List.set_cons_zero, List.set_cons_succ]
        refine obs_step (Eq.trans (by simp only [List.getElem?_toArray, List.getElem?_cons_succ, List.getElem?_cons_zero]; exact rfl) rfl) rfl (fun w' hS hV K hK => ?_) ?_
        · simp only [List.mem_cons, List.not_mem_nil, or_false, forall_eq_or_imp, forall_eq, List.getD_cons_succ, List.getD_cons_zero, VIs, VAny] at hV
          obtain ⟨e0, e1, e2, e3, e4⟩ := hV
          obtain ⟨q0, q1⟩ := hS.1.two; have q2 := hS.2.2
          go_simp
          refine (l04Is_b P A A' n c _ c' sq yss[k] _ hn HL (ha.below hS.2.1) (hr.below hS.2.1) HI.out).mono ?_
          rintro e w1 ⟨rfl, hb⟩
          exact hK.out _ _ _ rfl rfl rfl hb
        simp only [List.setIfInBounds_toArray, List.set_cons_zero, List.set_cons_succ]
        refine obs_step (Eq.trans (by simp only [List.getElem?_toArray, List.getElem?_cons_succ, List.getElem?_cons_zero]; exact rfl) rfl) rfl (fun w' hS hV K hK => ?_) ?_
        · simp only [List.mem_cons, List.not_mem_nil, or_false, forall_eq_or_imp, forall_eq, List.getD_cons_succ, List.getD_cons_zero, VIs, VAny] at hV
          obtain ⟨e0, e1, e2, e3, e4, e5⟩ := hV
          obtain ⟨q0, q1⟩ := hS.1.two; have q2 := hS.2.2
          go_simp
          exact hK.out _ _ _ rfl rfl rfl (Below.refl _ _)
        simp only [List.setIfInBounds_toArray, List.set_cons_zero, List.set_cons_succ]
        refine fun w' hS hV => ?_
        have hV := fun i hi => hV i (List.mem_range.1 hi)
        simp only [List.range, List.range.loop, List.mem_cons, List.not_mem_nil, or_false, forall_eq_or_imp, forall_eq, List.getD_cons_succ, List.getD_cons_zero, VIs, VAny] at hV
        obtain ⟨e0, e1, e2, e3, e4, e5, e6⟩ := hV
        simp only [e0, e1, e2, e3, e4, e5, e6]
        clear e0 e1 e2 e3 e4 e5 e6
        refine wpAny_done (by kernel_rfl) ?_ _
        go_wp2
        have hmu : isMu P sq yss[k] = true := by have := HI.out; rw [H1.out] at this; simpa using this
        have HN := Lib.hid (any_take_succ (q := fun ys => !(isMu P sq ys)) hxk HT.out (by rw [hmu]; rfl))
        clear hmu
        go_roundw
        case rel => exact ⟨k + 1, by omega, by go_num, HN.out, hS.1, hS.2.1⟩
        case measure => simp [intOf]; omega
    · obtain rfl : k = m := by omega
      go_wp2
      go_ret
      refine ⟨ret_int ?_, hBr⟩
      have := HT.out
      rw [List.take_of_length_le (by rw [HY.out]; omega)] at this
      unfold codeM
      rw [H1.out, this]; rfl
theorem nums_numsL {P : Int} {xs : List Int} (h : nums P xs = true) : NumsL P xs := fun x hx => by
  have := List.all_eq_true.1 h x hx
  simp [inR] at this
  omega
theorem codeM_sp {P : Int} {sq : List Int} {ms : List (List Int)} (h : codeM P sq ms = 0) : isSp P sq = true ∧ ∀ ys ∈ ms, isMu P sq ys = true := by
  unfold codeM at h
  cases h1 : isSp P sq
  · rw [h1] at h; simp at h
  · rw [h1, if_pos rfl] at h
    refine ⟨rfl, fun ys hy => ?_⟩
    cases h2 : isMu P sq ys
    · exfalso
      have : (ms.any fun ys => !(isMu P sq ys)) = true := List.any_eq_true.2 ⟨ys, hy, by rw [h2]; rfl⟩
      rw [if_pos this] at h
      omega
    · rfl
end Go.Proofs.YticofgmmjecleaaGreatDoor
namespace Go.Proofs.YticofgmmjecleaaGreatDoor
open Go.RowKit
/-- A world of the first B blocks. -/
def cutW (w : World) (B : Nat) : World := { w with heap := w.heap.extract 0 B }
theorem cutW_size {w : World} {B : Nat} (h : B ≤ w.heap.size) : (cutW w B).heap.size = B := by simp [cutW]; omega
theorem cutW_below {w : World} {B : Nat} (h : B ≤ w.heap.size) : Below (cutW w B).heap.size (cutW w B) w := by
  refine ⟨rfl, rfl, rfl, by rw [cutW_size h]; exact h, fun k hk => ?_⟩
  rw [cutW_size h] at hk
  simp [cutW, Array.getElem?_extract, hk]
  intro h2
  omega
theorem Own.mk_ {w : World} {E : TypeId} {B : Nat} {A : Option Addr} {n c : Nat} {us : List Value} (h : Own w B E A n c us) (hB : B ≤ w.heap.size) : Mk (cutW w B) w E A n c us := ⟨cutW_below hB, by rw [cutW_size hB]; exact h⟩
theorem Mk.own_ {w0 w : World} {E : TypeId} {B : Nat} {A : Option Addr} {n c : Nat} {us : List Value} (h : Mk w0 w E A n c us) (hB : w0.heap.size = B) : Own w B E A n c us := by rw [← hB]; exact h.2
set_option maxHeartbeats 1600000 in
set_option maxRecDepth 8000 in
theorem from__any (B : Option Addr) (nb cb : Nat) (bs : List Int) (w : World) (hnb : nb ≤ 4096) (r : Rd w B nb (bs.map (Value.int .u8))) (hbs : ∀ b ∈ bs, 0 ≤ b ∧ b < 256) (hbg : ∀ a, B = some a → a.block < w.heap.size) :
    Calls Tryz.prog 69 #[.slice B nb cb] w fun e w' => ∃ g, e = .returned (.pointer (some ⟨g, 0, none⟩)) ∧ w.heap.size ≤ g ∧ Src w' g 121 ∧ Below w.heap.size w w' := by
  have W0 : wrap64 (nb : Int) = nb := by unfold wrap64; omega
  go_enter Tryz.func69, Tryz.ntmps69
  go_wp2
  go_loopw [4] (fun i wr => ∃ (j : Nat) (h : Int), j ≤ nb ∧ i = .int .i64 j ∧ Blk wr w.heap.size 121 #[.slice B nb cb, .int .i64 0, .int .u64 h] ∧ Below w.heap.size w wr) (fun i _ => nb - (intOf i).toNat)
  case atStart => exact ⟨0, _, by omega, rfl, Blk.new _ _ _, (Below.refl _ _).alloc (Nat.le_refl _) _⟩
  case round =>
    obtain ⟨j, h, hj, rfl, k1, hb1⟩ := hrel
    by_cases hlt : j < nb
    · have d1 : decide ((j : Int) < (nb : Int)) = true := by simp; omega
      have d2 : decide ((j : Int) < 4096) = true := by simp; omega
      obtain ⟨gb, ob, rfl, hc⟩ := (r.below hb1).2 (by omega)
      have hbl : j < bs.length := by have := r.1; rw [List.length_map] at this; omega
      have hcb := hc j (.int .u8 bs[j]) (by simp [hbl])
      obtain ⟨b1, b2⟩ := hbs _ (List.getElem_mem hbl)
      obtain ⟨bb, hbb⟩ : ∃ x, x = bs[j] := ⟨_, rfl⟩
      rw [← hbb] at hcb b1 b2
      have i1 : (0 : Int) ≤ (j : Int) := by omega
      have i2 : (j : Int) < (nb : Int) := by omega
      have W2 : IntKind.u64.wrap bb = bb := IntWalk.u64_in _ ⟨b1, by omega⟩
      clear hc hbb
      go_wp2
      refine wp_obs 15 [[], [], [1], [1, 2], [1, 2, 3], [1, 2, 3, 4], [], [], [6, 7], [6, 7, 8], [6, 7, 8, 9], [1, 2, 3, 4, 5, 6, 7, 8, 9, 10], [1, 2, 3, 4, 5, 6, 7, 8, 9, 10, 11], [0], [0, 13], [0, 1, 2, 3, 4, 5, 6, 7, 8, 9, 10, 11, 12, 13, 14]] [VIs (.pointer (some ⟨w.heap.size, 0, none⟩)), VIs (.pointer (some ⟨w.heap.size, 0, none⟩)), VIs (.pointer (some ⟨w.heap.size, 0, none⟩)), VIs (.pointer (some ⟨w.heap.size, 2, none⟩)), VIs (.int .u64 (h)), VIs (.int .u64 (IntKind.u64.wrap (h * 1099511628211))), VIs (.slice (some ⟨gb, ob, none⟩) nb cb), VIs (.int .i64 (j)), VIs (.pointer (some ⟨gb, ob + j, none⟩)), VIs (.int .u8 bb), VIs (.int .u64 (bb)), VIs (.int .u64 (IntKind.u64.wrap (IntKind.u64.wrap (h * 1099511628211) + bb))), VIs (.int .u64 (IntKind.u64.wrap (IntKind.u64.wrap (IntKind.u64.wrap (h * 1099511628211) + bb) + 11))), VIs (.pointer (some ⟨w.heap.size, 0, none⟩)), VIs (.pointer (some ⟨w.heap.size, 2, none⟩))] (fun w' => Blk w' w.heap.size 121 #[.slice (some ⟨gb, ob, none⟩) nb cb, .int .i64 0, .int .u64 h] ∧ w'.cell? ⟨gb, ob + j, none⟩ = some (.int .u8 bb) ∧ Below wr.heap.size wr w') (by kernel_rfl) (by kernel_rfl) (fun _ _ h hb => ⟨h.1.below hb h.1.lt, (hb.cell (World.block_lt_of_cell? _ _ h.2.1)).trans h.2.1, h.2.2.trans (hb.mono h.2.2.size)⟩) (⟨k1.drew, hcb, (Below.refl _ _).drew⟩) (fun x => ?_)
      refine obs_step (Eq.trans (by simp only [List.getElem?_toArray, List.getElem?_cons_zero]; exact rfl) rfl) rfl (fun w' hS hV K hK => ?_) ?_
      · obtain ⟨q0, q1, q2⟩ := hS.1.three; have qb := hS.2.1
        go_simp
        exact hK.out _ _ _ rfl rfl rfl (Below.refl _ _)
      simp only [List.setIfInBounds_toArray, List.set_cons_zero, List.set_cons_succ]
      refine obs_step (Eq.trans (by simp only [List.getElem?_toArray, List.getElem?_cons_succ, List.getElem?_cons_zero]; exact rfl) rfl) rfl (fun w' hS hV K hK => ?_) ?_
      · obtain ⟨q0, q1, q2⟩ := hS.1.three; have qb := hS.2.1
        go_simp
        exact hK.out _ _ _ rfl rfl rfl (Below.refl _ _)
      simp only [List.setIfInBounds_toArray, List.set_cons_zero, List.set_cons_succ]
      refine obs_step (Eq.trans (by simp only [List.getElem?_toArray, List.getElem?_cons_succ, List.getElem?_cons_zero]; exact rfl) rfl) rfl (fun w' hS hV K hK => ?_) ?_
      · have e1 : x 1 = (.pointer (some ⟨w.heap.size, 0, none⟩)) := hV 1 (by decide)
        obtain ⟨q0, q1, q2⟩ := hS.1.three; have qb := hS.2.1
        go_simp
        exact hK.out _ _ _ rfl rfl rfl (Below.refl _ _)
      simp only [List.setIfInBounds_toArray, List.set_cons_zero, List.set_cons_succ]
      refine obs_step (Eq.trans (by simp only [List.getElem?_toArray, List.getElem?_cons_succ, List.getElem?_cons_zero]; exact rfl) rfl) rfl (fun w' hS hV K hK => ?_) ?_
      · have e1 : x 1 = (.pointer (some ⟨w.heap.size, 0, none⟩)) := hV 1 (by decide)
        have e2 : x 2 = (.pointer (some ⟨w.heap.size, 0, none⟩)) := hV 2 (by decide)
        obtain ⟨q0, q1, q2⟩ := hS.1.three; have qb := hS.2.1
        go_simp
        exact hK.out _ _ _ rfl rfl rfl (Below.refl _ _)
      simp only [List.setIfInBounds_toArray, List.set_cons_zero, List.set_cons_succ]
      refine obs_step (Eq.trans (by simp only [List.getElem?_toArray, List.getElem?_cons_succ, List.getElem?_cons_zero]; exact rfl) rfl) rfl (fun w' hS hV K hK => ?_) ?_
      · have e1 : x 1 = (.pointer (some ⟨w.heap.size, 0, none⟩)) := hV 1 (by decide)
        have e2 : x 2 = (.pointer (some ⟨w.heap.size, 0, none⟩)) := hV 2 (by decide)
        have e3 : x 3 = (.pointer (some ⟨w.heap.size, 2, none⟩)) := hV 3 (by decide)
        obtain ⟨q0, q1, q2⟩ := hS.1.three; have qb := hS.2.1
        go_simp
        exact hK.out _ _ _ rfl rfl rfl (Below.refl _ _)
      simp only [List.setIfInBounds_toArray, List.set_cons_zero, List.set_cons_succ]
      refine obs_step (Eq.trans (by simp only [List.getElem?_toArray, List.getElem?_cons_succ, List.getElem?_cons_zero]; exact rfl) rfl) rfl (fun w' hS hV K hK => ?_) ?_
      · have e1 : x 1 = (.pointer (some ⟨w.heap.size, 0, none⟩)) := hV 1 (by decide)
        have e2 : x 2 = (.pointer (some ⟨w.heap.size, 0, none⟩)) := hV 2 (by decide)
        have e3 : x 3 = (.pointer (some ⟨w.heap.size, 2, none⟩)) := hV 3 (by decide)
        have e4 : x 4 = (.int .u64 (h)) := hV 4 (by decide)
        obtain ⟨q0, q1, q2⟩ := hS.1.three; have qb := hS.2.1
        go_simp
        exact hK.out _ _ _ rfl rfl rfl (Below.refl _ _)
      simp only [List.setIfInBounds_toArray, List.set_cons_zero, List.set_cons_succ]
      refine obs_step (Eq.trans (by simp only [List.getElem?_toArray, List.getElem?_cons_succ, List.getElem?_cons_zero]; exact rfl) rfl) rfl (fun w' hS hV K hK => ?_) ?_
      · obtain ⟨q0, q1, q2⟩ := hS.1.three; have qb := hS.2.1
        go_simp
        exact hK.out _ _ _ rfl rfl rfl (Below.refl _ _)
      simp only [List.setIfInBounds_toArray, List.set_cons_zero, List.set_cons_succ]
      refine obs_step (Eq.trans (by simp only [List.getElem?_toArray, List.getElem?_cons_succ, List.getElem?_cons_zero]; exact rfl) rfl) rfl (fun w' hS hV K hK => ?_) ?_
      · obtain ⟨q0, q1, q2⟩ := hS.1.three; have qb := hS.2.1
        go_simp
        exact hK.out _ _ _ rfl rfl rfl (Below.refl _ _)
      simp only [List.setIfInBounds_toArray, List.set_cons_zero, List.set_cons_succ]
      refine obs_step (Eq.trans (by simp only [List.getElem?_toArray, List.getElem?_cons_succ, List.getElem?_cons_zero]; exact rfl) rfl) rfl (fun w' hS hV K hK => ?_) ?_
      · have e6 : x 6 = (.slice (some ⟨gb, ob, none⟩) nb cb) := hV 6 (by decide)
        have e7 : x 7 = (.int .i64 (j)) := hV 7 (by decide)
        obtain ⟨q0, q1, q2⟩ := hS.1.three; have qb := hS.2.1
        go_simp
        exact hK.out _ _ _ rfl rfl rfl (Below.refl _ _)
      simp only [List.setIfInBounds_toArray, List.set_cons_zero, List.set_cons_succ]
      refine obs_step (Eq.trans (by simp only [List.getElem?_toArray, List.getElem?_cons_succ, List.getElem?_cons_zero]; exact rfl) rfl) rfl (fun w' hS hV K hK => ?_) ?_
      · have e6 : x 6 = (.slice (some ⟨gb, ob, none⟩) nb cb) := hV 6 (by decide)
        have e7 : x 7 = (.int .i64 (j)) := hV 7 (by decide)
        have e8 : x 8 = (.pointer (some ⟨gb, ob + j, none⟩)) := hV 8 (by decide)
        obtain ⟨q0, q1, q2⟩ := hS.1.three; have qb := hS.2.1
        go_simp
        exact hK.out _ _ _ rfl rfl rfl (Below.refl _ _)
      simp only [List.setIfInBounds_toArray, List.set_cons_zero, List.set_cons_succ]
      refine obs_step (Eq.trans (by simp only [List.getElem?_toArray, List.getElem?_cons_succ, List.getElem?_cons_zero]; exact rfl) rfl) rfl (fun w' hS hV K hK => ?_) ?_
      · have e6 : x 6 = (.slice (some ⟨gb, ob, none⟩) nb cb) := hV 6 (by decide)
        have e7 : x 7 = (.int .i64 (j)) := hV 7 (by decide)
        have e8 : x 8 = (.pointer (some ⟨gb, ob + j, none⟩)) := hV 8 (by decide)
        have e9 : x 9 = (.int .u8 bb) := hV 9 (by decide)
        obtain ⟨q0, q1, q2⟩ := hS.1.three; have qb := hS.2.1
        go_simp
        exact hK.out _ _ _ rfl rfl rfl (Below.refl _ _)
      simp only [List.setIfInBounds_toArray, List.set_cons_zero, List.set_cons_succ]
      refine obs_step (Eq.trans (by simp only [List.getElem?_toArray, List.getElem?_cons_succ, List.getElem?_cons_zero]; exact rfl) rfl) rfl (fun w' hS hV K hK => ?_) ?_
      · have e1 : x 1 = (.pointer (some ⟨w.heap.size, 0, none⟩)) := hV 1 (by decide)
        have e2 : x 2 = (.pointer (some ⟨w.heap.size, 0, none⟩)) := hV 2 (by decide)
        have e3 : x 3 = (.pointer (some ⟨w.heap.size, 2, none⟩)) := hV 3 (by decide)
        have e4 : x 4 = (.int .u64 (h)) := hV 4 (by decide)
        have e5 : x 5 = (.int .u64 (IntKind.u64.wrap (h * 1099511628211))) := hV 5 (by decide)
        have e6 : x 6 = (.slice (some ⟨gb, ob, none⟩) nb cb) := hV 6 (by decide)
        have e7 : x 7 = (.int .i64 (j)) := hV 7 (by decide)
        have e8 : x 8 = (.pointer (some ⟨gb, ob + j, none⟩)) := hV 8 (by decide)
        have e9 : x 9 = (.int .u8 bb) := hV 9 (by decide)
        have e10 : x 10 = (.int .u64 (bb)) := hV 10 (by decide)
        obtain ⟨q0, q1, q2⟩ := hS.1.three; have qb := hS.2.1
        go_simp
        exact hK.out _ _ _ rfl rfl rfl (Below.refl _ _)
      simp only [List.setIfInBounds_toArray, List.set_cons_zero, List.set_cons_succ]
      refine obs_step (Eq.trans (by simp only [List.getElem?_toArray, List.getElem?_cons_succ, List.getElem?_cons_zero]; exact rfl) rfl) rfl (fun w' hS hV K hK => ?_) ?_
      · have e1 : x 1 = (.pointer (some ⟨w.heap.size, 0, none⟩)) := hV 1 (by decide)
        have e2 : x 2 = (.pointer (some ⟨w.heap.size, 0, none⟩)) := hV 2 (by decide)
        have e3 : x 3 = (.pointer (some ⟨w.heap.size, 2, none⟩)) := hV 3 (by decide)
        have e4 : x 4 = (.int .u64 (h)) := hV 4 (by decide)
        have e5 : x 5 = (.int .u64 (IntKind.u64.wrap (h * 1099511628211))) := hV 5 (by decide)
        have e6 : x 6 = (.slice (some ⟨gb, ob, none⟩) nb cb) := hV 6 (by decide)
        have e7 : x 7 = (.int .i64 (j)) := hV 7 (by decide)
        have e8 : x 8 = (.pointer (some ⟨gb, ob + j, none⟩)) := hV 8 (by decide)
        have e9 : x 9 = (.int .u8 bb) := hV 9 (by decide)
        have e10 : x 10 = (.int .u64 (bb)) := hV 10 (by decide)
        have e11 : x 11 = (.int .u64 (IntKind.u64.wrap (IntKind.u64.wrap (h * 1099511628211) + bb))) := hV 11 (by decide)
        obtain ⟨q0, q1, q2⟩ := hS.1.three; have qb := hS.2.1
        go_simp
        exact hK.out _ _ _ rfl rfl rfl (Below.refl _ _)
      simp only [List.setIfInBounds_toArray, List.set_cons_zero, List.set_cons_succ]
      refine obs_step (Eq.trans (by simp only [List.getElem?_toArray, List.getElem?_cons_succ, List.getElem?_cons_zero]; exact rfl) rfl) rfl (fun w' hS hV K hK => ?_) ?_
      · have e0 : x 0 = (.pointer (some ⟨w.heap.size, 0, none⟩)) := hV 0 (by decide)
        obtain ⟨q0, q1, q2⟩ := hS.1.three; have qb := hS.2.1
        go_simp
        exact hK.out _ _ _ rfl rfl rfl (Below.refl _ _)
      simp only [List.setIfInBounds_toArray, List.set_cons_zero, List.set_cons_succ]
      refine obs_step (Eq.trans (by simp only [List.getElem?_toArray, List.getElem?_cons_succ, List.getElem?_cons_zero]; exact rfl) rfl) rfl (fun w' hS hV K hK => ?_) ?_
      · have e0 : x 0 = (.pointer (some ⟨w.heap.size, 0, none⟩)) := hV 0 (by decide)
        have e13 : x 13 = (.pointer (some ⟨w.heap.size, 0, none⟩)) := hV 13 (by decide)
        obtain ⟨q0, q1, q2⟩ := hS.1.three; have qb := hS.2.1
        go_simp
        exact hK.out _ _ _ rfl rfl rfl (Below.refl _ _)
      simp only [List.setIfInBounds_toArray, List.set_cons_zero, List.set_cons_succ]
      refine fun w' hS hV => ?_
      have e0 : x 0 = (.pointer (some ⟨w.heap.size, 0, none⟩)) := hV 0 (by decide)
      have e1 : x 1 = (.pointer (some ⟨w.heap.size, 0, none⟩)) := hV 1 (by decide)
      have e2 : x 2 = (.pointer (some ⟨w.heap.size, 0, none⟩)) := hV 2 (by decide)
      have e3 : x 3 = (.pointer (some ⟨w.heap.size, 2, none⟩)) := hV 3 (by decide)
      have e4 : x 4 = (.int .u64 (h)) := hV 4 (by decide)
      have e5 : x 5 = (.int .u64 (IntKind.u64.wrap (h * 1099511628211))) := hV 5 (by decide)
      have e6 : x 6 = (.slice (some ⟨gb, ob, none⟩) nb cb) := hV 6 (by decide)
      have e7 : x 7 = (.int .i64 (j)) := hV 7 (by decide)
      have e8 : x 8 = (.pointer (some ⟨gb, ob + j, none⟩)) := hV 8 (by decide)
      have e9 : x 9 = (.int .u8 bb) := hV 9 (by decide)
      have e10 : x 10 = (.int .u64 (bb)) := hV 10 (by decide)
      have e11 : x 11 = (.int .u64 (IntKind.u64.wrap (IntKind.u64.wrap (h * 1099511628211) + bb))) := hV 11 (by decide)
      have e12 : x 12 = (.int .u64 (IntKind.u64.wrap (IntKind.u64.wrap (IntKind.u64.wrap (h * 1099511628211) + bb) + 11))) := hV 12 (by decide)
      have e13 : x 13 = (.pointer (some ⟨w.heap.size, 0, none⟩)) := hV 13 (by decide)
      have e14 : x 14 = (.pointer (some ⟨w.heap.size, 2, none⟩)) := hV 14 (by decide)
      simp only [e0, e1, e2, e3, e4, e5, e6, e7, e8, e9, e10, e11, e12, e13, e14]
      clear e0 e1 e2 e3 e4 e5 e6 e7 e8 e9 e10 e11 e12 e13 e14
      obtain ⟨k2, _, hb2⟩ := hS
      have q2 := k2.three.2.2
      have f2 := k2.frozen 2
      refine any_one (j := 15) (by kernel_rfl) (Eq.trans (by simp only [List.getElem?_toArray, List.getElem?_cons_succ, List.getElem?_cons_zero]; exact rfl) rfl) (fun K hK => ?_)
      go_simp
      refine hK.out _ _ (wpAny_done (by kernel_rfl) ?_ _)
      have k3 := k2.set_ 2 (.int .u64 (IntKind.u64.wrap (IntKind.u64.wrap (IntKind.u64.wrap (h * 1099511628211) + bb) + 11)))
      simp only [List.setIfInBounds_toArray, List.set_cons_zero, List.set_cons_succ] at k3
      have hb3 := (hb1.trans (hb2.mono hb1.size)).setCell (p := ⟨w.heap.size, 2, none⟩) (Nat.le_refl _) (.int .u64 (IntKind.u64.wrap (IntKind.u64.wrap (IntKind.u64.wrap (h * 1099511628211) + bb) + 11)))
      clear q2 f2 k2 hb2 k1
      go_wp2
      go_roundw
      case rel => exact ⟨j + 1, _, by omega, by go_num, k3, hb3⟩
      case measure => simp [intOf]; omega
    · have d1 : decide ((j : Int) < (nb : Int)) = false := by simp; omega
      go_wp2
      go_ret
      exact ⟨_, rfl, Nat.le_refl _, ⟨B, nb, cb, bs, 0, h, k1, r.below hb1, hbs, by omega, hnb, hbg⟩, hb1⟩
set_option maxHeartbeats 1600000 in
set_option maxRecDepth 8000 in
theorem nextList_any (g : Nat) (p : Int) (n : Nat) (w : World) (hs : Src w g 121) (hp : p ≤ 4611686018427387904) (hn : n ≤ 1048576) :
    Calls Tryz.prog 108 #[.pointer (some ⟨g, 0, none⟩), .int .i64 p, .int .i64 n] w fun e w' => ∃ (A : Option Addr) (c : Nat) (xs : List Int), e = .returned (.slice A n c) ∧ xs.length = n ∧ (∀ x ∈ xs, 0 ≤ x ∧ (1 ≤ p → x < p)) ∧ Own w' w.heap.size 2 A n c (ints xs) ∧ Dr g 121 w w' := by
  have hM0 := Mk.lit (E := 2) (Below.refl w.heap.size w) #[] (by simp)
  have hd0 := (Dr.refl hs).alloc (.cells #[] 2)
  go_enter Tryz.func108, Tryz.ntmps108
  go_wp2
  go_loopw [7, 2] (fun out i wr => ∃ (j : Nat) (A : Option Addr) (c : Nat) (xs : List Int), j ≤ n ∧ i = .int .i64 ((n - j : Nat) : Int) ∧ out = .slice A j c ∧ xs.length = j ∧ (∀ x ∈ xs, 0 ≤ x ∧ (1 ≤ p → x < p)) ∧ Own wr w.heap.size 2 A j c (ints xs) ∧ Dr g 121 w wr) (fun _ i _ => (intOf i).toNat)
  case atStart => exact ⟨0, _, _, [], by omega, by simp, rfl, rfl, fun x hx => (by cases hx), by simpa [ints] using hM0.2, hd0⟩
  case round =>
    obtain ⟨j, A, c, xs, hj, rfl, rfl, hl, hx, hO, hd⟩ := hrel
    clear hM0 hd0
    by_cases hlt : j < n
    · have d1 : decide (0 < ((n - j : Nat) : Int)) = true := by simp; omega
      have W5 : wrap64 (((n - j : Nat) : Int) - 1) = ((n - (j + 1) : Nat) : Int) := by unfold wrap64; omega
      have hnx := next_any g p wr hd.s' hp
      have HX := Lib.hid hx
      have HO := Lib.hid hO
      have HD := Lib.hid hd
      clear hx hO hd
      go_wp2_with (first
        | (go_at_call 72; refine hnx.mono ?_; rintro e w' ⟨r, rfl, hr1, hr2, hd2⟩
           have HO2 := Lib.hid (HO.out.dr hd2 (by decide))
           have HD2 := Lib.hid (HD.out.trans hd2)
           clear hnx hd2)
        | (at_builtin; refine wpList_app1 (cutW w' w.heap.size) w' 22 2 _ _ Tryz.underlying22 info_i rfl (by omega) rfl _ _ rfl A j c _ _ (HO2.out.mk_ HD2.out.size) (by omega) rfl rfl rfl ?_; intro A2 c2 w2 hM2 hg2 _))
      have hO3 := hM2.own_ (cutW_size HD2.out.size)
      have hd3 := HD2.out.grown HO2.out hg2
      clear hM2 hg2
      go_roundw
      case rel => exact ⟨j + 1, A2, c2, xs ++ [r], by omega, by go_num, rfl, by simp [hl], fun x hx => by
        rcases List.mem_append.1 hx with hx | hx
        · exact HX.out x hx
        · rw [List.mem_singleton.1 hx]; exact ⟨hr1, hr2⟩, by simpa [ints] using hO3, hd3⟩
      case measure => simp [intOf]; omega
    · obtain rfl : j = n := by omega
      have d1 : decide (0 < ((j - j : Nat) : Int)) = false := by simp
      go_wp2
      go_ret
      exact ⟨A, c, xs, rfl, hl, hx, hO, hd⟩
end Go.Proofs.YticofgmmjecleaaGreatDoor
namespace Go.Proofs.YticofgmmjecleaaGreatDoor
open Go.RowKit
set_option maxHeartbeats 800000 in
set_option maxRecDepth 8000 in
theorem pick_any (g gl : Nat) (xs : List Int) (w : World) (hs : Src w g 121) (kl : Blk w gl 2 (ints xs).toArray) (h0 : 0 < xs.length) (hl : xs.length ≤ 1000) :
    Calls Tryz.prog 106 #[.pointer (some ⟨g, 0, none⟩), .slice (some ⟨gl, 0, none⟩) xs.length xs.length] w fun e w' => ∃ r : Int, r ∈ xs ∧ e = .returned (.int .i64 r) ∧ Dr g 121 w w' := by
  have hnx := next_any g (xs.length : Int) w hs (by omega)
  go_enter Tryz.func106, Tryz.ntmps106
  go_wp2_with fail
  refine hnx.mono ?_
  rintro e w2 ⟨r, rfl, hr1, hr2, hd⟩
  have hr3 := hr2 (by omega)
  obtain ⟨rn, rfl⟩ : ∃ rn : Nat, r = rn := ⟨r.toNat, by omega⟩
  have hlt : rn < xs.length := by omega
  have kl2 := kl.dr hd (by decide)
  have hc : w2.cell? ⟨gl, rn, none⟩ = some (.int .i64 xs[rn]) := by
    rw [kl2.cell]
    simp [ints, hlt]
  have hmem := List.getElem_mem hlt
  obtain ⟨x, hx⟩ : ∃ x, x = xs[rn] := ⟨_, rfl⟩
  rw [← hx] at hc hmem
  clear hnx hx
  go_wp2
  go_ret
  exact ⟨x, hmem, rfl, hd⟩
set_option maxHeartbeats 800000 in
set_option maxRecDepth 8000 in
theorem drawPrime_any (g : Nat) (w : World) (hs : Src w g 121) :
    Calls Tryz.prog 161 #[.pointer (some ⟨g, 0, none⟩)] w fun e w' => ∃ r : Int, 3 ≤ r ∧ r ≤ 13 ∧ e = .returned (.int .i64 r) ∧ Dr g 121 w w' := by
  have hd1 := (Dr.refl hs).alloc (.cells #[.int .i64 3, .int .i64 5, .int .i64 7, .int .i64 11, .int .i64 13, .int .i64 3, .int .i64 5, .int .i64 7] 2)
  have hpk := pick_any g w.heap.size [3, 5, 7, 11, 13, 3, 5, 7] _ hd1.s' (Blk.new w 2 _) (by decide) (by decide)
  go_enter Tryz.func161, Tryz.ntmps161
  go_wp2_with fail
  refine hpk.mono ?_
  rintro e w2 ⟨r, hr, rfl, hd⟩
  go_wp2
  go_ret
  refine ⟨r, ?_, ?_, rfl, hd1.trans hd⟩
  · simp at hr; omega
  · simp at hr; omega
theorem ints4 (a b c d : Int) : (ints [a, b, c, d]).toArray = #[.int .i64 a, .int .i64 b, .int .i64 c, .int .i64 d] := rfl
theorem ints2 (a b : Int) : (ints [a, b]).toArray = #[.int .i64 a, .int .i64 b] := rfl
theorem Dr.setNew {w wr : World} {g b : Nat} {T : TypeId} (d : Dr g T w wr) (hb : w.heap.size ≤ b) (i : Nat) (u : Value) : Dr g T w (wr.setCell ⟨b, i, none⟩ u) := by
  have hlt := d.s.lt
  have hfar : ∀ k, k ≠ b → (wr.setCell ⟨b, i, none⟩ u).heap[k]? = wr.heap[k]? := fun k hk => Below.heap_setCell wr ⟨b, i, none⟩ _ k hk
  have hB : Below g wr (wr.setCell ⟨b, i, none⟩ u) := (Below.refl _ _).setCell (p := ⟨b, i, none⟩) (Nat.le_trans (Nat.le_of_lt hlt) hb) _
  exact ⟨d.s, d.s'.keep (hfar g (by omega)) hB, d.b.trans hB, fun k hk hne => (hfar k (by omega)).trans (d.k k hk hne)⟩
set_option maxHeartbeats 3200000 in
set_option maxRecDepth 8000 in
theorem l03Any_any (g : Nat) (most : Nat) (w : World) (hs : Src w g 121) (hm1 : 1 ≤ most) (hm2 : most ≤ 100) :
    Calls Tryz.prog 134 #[.pointer (some ⟨g, 0, none⟩), .int .i64 most] w fun e w' => ∃ (P : Int) (A : Option Addr) (n c : Nat) (xs : List Int), e = .returned (.agg #[.int .i64 P, .slice A n c]) ∧ 3 ≤ P ∧ P ≤ 13 ∧ 1 ≤ n ∧ n ≤ most ∧ Own w' w.heap.size 2 A n c (ints xs) ∧ Dr g 121 w w' := by
  have hd1 := (Dr.refl hs).alloc (.cells #[.int .i64 0, .slice none 0 0] 28)
  have k1 : Blk (w.alloc (.cells #[.int .i64 0, .slice none 0 0] 28)) w.heap.size 28 #[.int .i64 0, .slice none 0 0] := Blk.new _ _ _
  have hdp := drawPrime_any g (w.alloc (.cells #[.int .i64 0, .slice none 0 0] 28)) hd1.s'
  have hsw : (w.alloc (.cells #[.int .i64 0, .slice none 0 0] 28)).heap.size = w.heap.size + 1 := by simp
  go_enter Tryz.func134, Tryz.ntmps134
  go_wp2_with fail
  refine hdp.mono ?_
  rintro e w2 ⟨p, hp1, hp2, rfl, hd2⟩
  have hd2' := hd1.trans hd2
  have k2 := k1.dr hd2 (by decide)
  have hs2 := hd2.size
  have hd3 := hd2'.alloc (.cells #[.int .i64 p, .slice none 0 0] 28)
  have k3 := k2.alloc (.cells #[.int .i64 p, .slice none 0 0] 28)
  have kb3 : Blk (w2.alloc (.cells #[.int .i64 p, .slice none 0 0] 28)) w2.heap.size 28 #[.int .i64 p, .slice none 0 0] := Blk.new _ _ _
  have hnx := fun w' (h : Src w' g 121) => next_any g (most : Int) w' h (by omega)
  have hsw2 : w.heap.size + 1 ≤ w2.heap.size := by omega
  clear hdp hd1 k1 hd2 hd2' k2 hsw hs2
  go_wp2_with fail
  refine (hnx _ hd3.s').mono ?_
  rintro e w3 ⟨r, rfl, hr1, hr2, hd4⟩
  have hr3 := hr2 (by omega)
  obtain ⟨N, hN⟩ : ∃ N : Nat, (N : Int) = 1 + r := ⟨(1 + r).toNat, by omega⟩
  have hd5 := hd3.trans hd4
  have k5 := k3.dr hd4 (by decide)
  have kb5 := kb3.dr hd4 (by decide)
  have WN : wrap64 (1 + r) = (N : Int) := by unfold wrap64; omega
  have WP : wrap64 (p - 1) = p - 1 := by unfold wrap64; omega
  have hnxp := fun w' (h : Src w' g 121) => next_any g (p - 1) w' h (by omega)
  have hnx10 := fun w' (h : Src w' g 121) => next_any g 10 w' h (by omega)
  clear hnx hd3 k3 kb3 hd4
  go_wp2
  go_loopw [7] (fun q wr => ∃ (j m : Nat) (A : Option Addr) (c : Nat) (xs : List Int), j + m = N ∧ q = .int .i64 m ∧ Blk wr w.heap.size 28 #[.int .i64 0, .slice none 0 0] ∧ Blk wr w2.heap.size 28 #[.int .i64 p, .slice A j c] ∧ Own wr w.heap.size 2 A j c (ints xs) ∧ Dr g 121 w wr) (fun q _ => (intOf q).toNat)
  case atStart => exact ⟨0, N, none, 0, [], by omega, by rw [hN], k5, kb5, World.ownsRow_nil _ _ _ _, hd5⟩
  case round =>
    obtain ⟨j, m, A, c, xs, hjm, rfl, k4, k6, hO, hd⟩ := hrel
    clear k5 kb5 hd5
    cases m with
    | zero =>
      have hjN : j = N := by omega
      subst hjN
      obtain ⟨q0, q1⟩ := k6.two
      obtain ⟨p0, p1⟩ := k4.two
      have f0 := k4.frozen 0
      have f1 := k4.frozen 1
      go_wp2
      have kz := k4.set_ 0 (.int .i64 p)
      refine bodyPost_ret (v := .agg #[.int .i64 p, .slice A j c]) (by simp [results, Tryz.results134, go_sem, p0, p1]) rfl ⟨p, A, j, c, xs, rfl, hp1, hp2, by omega, by omega, (hO.far k4 (by decide) 0 _).far kz (by decide) 1 _, (hd.setNew (Nat.le_refl _) 0 _).setNew (Nat.le_refl _) 1 _⟩
    | succ m =>
      have d1 : decide (0 < ((m + 1 : Nat) : Int)) = true := by rw [decide_eq_true_eq]; omega
      have WM : wrap64 (((m + 1 : Nat) : Int) - 1) = (m : Int) := by unfold wrap64; omega
      have HO := Lib.hid hO
      clear hO
      go_wp2_with fail
      refine (hnxp _ hd.s').mono ?_
      rintro e wA ⟨ra, rfl, ra1, ra2, hdA⟩
      have ra3 := ra2 (by omega)
      have WA : wrap64 (1 + ra) = 1 + ra := by unfold wrap64; omega
      have hdA' := (Dr.refl hdA.s').alloc (.cells #[.int .i64 1, .int .i64 (p - 1), .int .i64 (1 + ra), .int .i64 1] 2)
      have hpk := pick_any g wA.heap.size [1, p - 1, 1 + ra, 1] _ hdA'.s' (by rw [ints4]; exact Blk.new wA 2 _) (by simp) (by simp)
      go_wp2_with fail
      refine hpk.mono ?_
      rintro e wB ⟨rb, _, rfl, hdB⟩
      go_wp2_with fail
      refine (hnx10 _ hdB.s').mono ?_
      rintro e wC ⟨rc, rfl, rc1, rc2, hdC⟩
      have hdAC := ((hdA.trans hdA').trans hdB).trans hdC
      have HD2 := Lib.hid (hd.trans hdAC)
      have HO2 := Lib.hid (HO.out.dr hdAC (by decide))
      have k4C := k4.dr hdAC (by decide)
      have k6C := k6.dr hdAC (by decide)
      obtain ⟨q0, q1⟩ := k6C.two
      clear hd hdA hdA' hdB hdC hdAC hpk hnxp hnx10 k4 k6
      by_cases hrc : rc = 0
      · have er : (rc == 0) = true := by simp [hrc]
        go_wp2_with (at_builtin; refine wpList_app1 (cutW wC w.heap.size) wC 22 2 _ _ Tryz.underlying22 info_i rfl (by omega) rfl _ _ rfl A j c _ _ (HO2.out.mk_ HD2.out.size) (by omega) rfl rfl rfl ?_; intro A8 c8 w8 hM8 hg8 _
                     have k4a := k4C.grown hg8 (HO2.out.ne_blk k4C (by decide))
                     have k6a := k6C.grown hg8 (HO2.out.ne_blk k6C (by decide))
                     have hO3 := hM8.own_ (cutW_size HD2.out.size)
                     have hd3 := HD2.out.grown HO2.out hg8
                     have f8 := k6a.frozen 1
                     have f9 := k6a.cell 1
                     simp only [List.getElem?_toArray, List.getElem?_cons_zero, List.getElem?_cons_succ] at f9)
        have k4b := k4a.far (p := ⟨w2.heap.size, 1, none⟩) (show w.heap.size ≠ w2.heap.size by omega) (.slice A8 (j + 1) c8)
        have k6b := k6a.set_ 1 (.slice A8 (j + 1) c8)
        have hO4 := hO3.far k6a (by decide) 1 (.slice A8 (j + 1) c8)
        have hd4 := hd3.setNew (b := w2.heap.size) (by omega) 1 (.slice A8 (j + 1) c8)
        simp only [List.setIfInBounds_toArray, List.set_cons_zero, List.set_cons_succ] at k6b
        clear k4a k6a hO3 hd3 f8 f9 hM8 hg8 k4C k6C
        go_roundw
        case rel => exact ⟨j + 1, m, A8, c8, xs ++ [0], by omega, by go_num, k4b, k6b, by simpa [ints] using hO4, hd4⟩
        case measure => simp [intOf]
      · have er : (rc == 0) = false := by simp [hrc]
        go_wp2_with (at_builtin; refine wpList_app1 (cutW wC w.heap.size) wC 22 2 _ _ Tryz.underlying22 info_i rfl (by omega) rfl _ _ rfl A j c _ _ (HO2.out.mk_ HD2.out.size) (by omega) rfl rfl rfl ?_; intro A8 c8 w8 hM8 hg8 _
                     have k4a := k4C.grown hg8 (HO2.out.ne_blk k4C (by decide))
                     have k6a := k6C.grown hg8 (HO2.out.ne_blk k6C (by decide))
                     have hO3 := hM8.own_ (cutW_size HD2.out.size)
                     have hd3 := HD2.out.grown HO2.out hg8
                     have f8 := k6a.frozen 1
                     have f9 := k6a.cell 1
                     simp only [List.getElem?_toArray, List.getElem?_cons_zero, List.getElem?_cons_succ] at f9)
        have k4b := k4a.far (p := ⟨w2.heap.size, 1, none⟩) (show w.heap.size ≠ w2.heap.size by omega) (.slice A8 (j + 1) c8)
        have k6b := k6a.set_ 1 (.slice A8 (j + 1) c8)
        have hO4 := hO3.far k6a (by decide) 1 (.slice A8 (j + 1) c8)
        have hd4 := hd3.setNew (b := w2.heap.size) (by omega) 1 (.slice A8 (j + 1) c8)
        simp only [List.setIfInBounds_toArray, List.set_cons_zero, List.set_cons_succ] at k6b
        clear k4a k6a hO3 hd3 f8 f9 hM8 hg8 k4C k6C
        go_roundw
        case rel => exact ⟨j + 1, m, A8, c8, xs ++ [rb], by omega, by go_num, k4b, k6b, by simpa [ints] using hO4, hd4⟩
        case measure => simp [intOf]
set_option maxHeartbeats 1600000 in
set_option maxRecDepth 8000 in
theorem l03Draw_any (g : Nat) (w : World) (hs : Src w g 121) :
    Calls Tryz.prog 105 #[.pointer (some ⟨g, 0, none⟩)] w fun e w' => ∃ (P : Int) (A : Option Addr) (n c : Nat) (xs : List Int), e = .returned (.agg #[.int .i64 P, .slice A n c]) ∧ 3 ≤ P ∧ P ≤ 13 ∧ 1 ≤ n ∧ n ≤ 6 ∧ Own w' w.heap.size 2 A n c (ints xs) ∧ Dr g 121 w w' := by
  have hd1 := ((Dr.refl hs).alloc (.cells #[.int .i64 0, .slice none 0 0] 28)).alloc (.cells #[.int .i64 2, .int .i64 3, .int .i64 3, .int .i64 4, .int .i64 6] 2)
  have k1 : Blk ((w.alloc (.cells #[.int .i64 0, .slice none 0 0] 28)).alloc (.cells #[.int .i64 2, .int .i64 3, .int .i64 3, .int .i64 4, .int .i64 6] 2)) w.heap.size 28 #[.int .i64 0, .slice none 0 0] := (Blk.new _ _ _).alloc _
  have hpk := pick_any g (w.alloc (.cells #[.int .i64 0, .slice none 0 0] 28)).heap.size [2, 3, 3, 4, 6] _ hd1.s' (Blk.new _ 2 _) (by decide) (by decide)
  have e1 : (w.alloc (.cells #[.int .i64 0, .slice none 0 0] 28)).heap.size = w.heap.size + 1 := by simp
  rw [e1] at hpk
  go_enter Tryz.func105, Tryz.ntmps105
  go_wp2_with fail
  refine hpk.mono ?_
  rintro e w2 ⟨r, hr, rfl, hd2⟩
  have hr1 : 2 ≤ r ∧ r ≤ 6 := by simp at hr; omega
  obtain ⟨mn, rfl⟩ : ∃ mn : Nat, r = mn := ⟨r.toNat, by omega⟩
  have hd3 := hd1.trans hd2
  have k2 := k1.dr hd2 (by decide)
  have han := l03Any_any g mn w2 hd3.s' (by omega) (by omega)
  clear hpk hd1 hd2 k1 hr
  go_wp2_with fail
  refine han.mono ?_
  rintro e w3 ⟨P, A, n, c, xs, rfl, hP1, hP2, hn1, hn2, hO, hd4⟩
  have k3 := k2.dr hd4 (by decide)
  have hd5 := hd3.trans hd4
  have hO5 := hO.base hd3.size
  obtain ⟨p0, p1⟩ := k3.two
  have f0 := k3.frozen 0
  have f1 := k3.frozen 1
  have kz := k3.set_ 0 (.int .i64 P)
  clear han k2 hd3 hd4 hO
  go_wp2
  exact bodyPost_ret (v := .agg #[.int .i64 P, .slice A n c]) (by simp [results, Tryz.results105, go_sem, p0, p1]) rfl ⟨P, A, n, c, xs, rfl, hP1, hP2, hn1, by omega, (hO5.far k3 (by decide) 0 _).far kz (by decide) 1 _, (hd5.setNew (Nat.le_refl _) 0 _).setNew (Nat.le_refl _) 1 _⟩
/-- What a struct's box is left as, when the space in it is returned. -/
theorem space_back {w wr : World} {g b : Nat} {T : TypeId} {P : Int} {A : Option Addr} {n c : Nat} {xs : List Int} {cs : Array Value} (k : Blk wr b 28 cs) (hb : w.heap.size ≤ b) (hO : Own wr w.heap.size 2 A n c (ints xs)) (hd : Dr g T w wr) :
    Own ((wr.setCell ⟨b, 0, none⟩ (.int .i64 P)).setCell ⟨b, 1, none⟩ (.slice A n c)) w.heap.size 2 A n c (ints xs) ∧ Dr g T w ((wr.setCell ⟨b, 0, none⟩ (.int .i64 P)).setCell ⟨b, 1, none⟩ (.slice A n c)) :=
  ⟨(hO.far k (by decide) 0 _).far (k.set_ 0 (.int .i64 P)) (by decide) 1 _, (hd.setNew hb 0 _).setNew hb 1 _⟩
/-- The value is a number. -/
def VNum : VP := ⟨fun v _ => ∃ r : Int, v = .int .i64 r, fun _ _ _ h _ => h⟩
theorem Own.set_ {w : World} {E : TypeId} {B g : Nat} {n c : Nat} {us : List Value} (h : Own w B E (some ⟨g, 0, none⟩) n c us) (k : Nat) (u : Value) : Own (w.setCell ⟨g, k, none⟩ u) B E (some ⟨g, 0, none⟩) n c (us.set k u) ∧ w.grownBy (w.setCell ⟨g, k, none⟩ u) (some g) := World.ownsRow.stored h k u
set_option maxHeartbeats 3200000 in
set_option maxRecDepth 8000 in
theorem l03Spoil_any (g : Nat) (w : World) (hs : Src w g 121) :
    Calls Tryz.prog 70 #[.pointer (some ⟨g, 0, none⟩)] w fun e w' => ∃ (P : Int) (A : Option Addr) (n c : Nat) (xs : List Int), e = .returned (.agg #[.int .i64 P, .slice A n c]) ∧ P ≤ 17 ∧ n ≤ 7 ∧ Own w' w.heap.size 2 A n c (ints xs) ∧ Dr g 121 w w' := by
  have hd1 := (Dr.refl hs).alloc (.cells #[.int .i64 0, .slice none 0 0] 28)
  have k1 : Blk (w.alloc (.cells #[.int .i64 0, .slice none 0 0] 28)) w.heap.size 28 #[.int .i64 0, .slice none 0 0] := Blk.new _ _ _
  have hdr := l03Draw_any g (w.alloc (.cells #[.int .i64 0, .slice none 0 0] 28)) hd1.s'
  have hsw : (w.alloc (.cells #[.int .i64 0, .slice none 0 0] 28)).heap.size = w.heap.size + 1 := by simp
  go_enter Tryz.func70, Tryz.ntmps70
  go_wp2_with fail
  refine hdr.mono ?_
  rintro e w2 ⟨P, A, n, c, xs, rfl, hP1, hP2, hn1, hn2, hO, hd2⟩
  have hs2 := hd2.size
  have hlt2 : w.heap.size < w2.heap.size := by omega
  have hd3 := (hd1.trans hd2).alloc (.cells #[.int .i64 P, .slice A n c] 28)
  have k3 := (k1.dr hd2 (by decide)).alloc (.cells #[.int .i64 P, .slice A n c] 28)
  have kb3 : Blk (w2.alloc (.cells #[.int .i64 P, .slice A n c] 28)) w2.heap.size 28 #[.int .i64 P, .slice A n c] := Blk.new _ _ _
  have hO3 := (hO.base (B' := w.heap.size) (by omega)).below ((Below.refl _ _).alloc (Nat.le_refl _) (.cells #[.int .i64 P, .slice A n c] 28))
  have hnx := next_any g 40 _ hd3.s' (by omega)
  clear hdr hd1 k1 hsw hd2 hs2 hO
  go_wp2_with fail
  refine hnx.mono ?_
  rintro e w3 ⟨r, rfl, hr1, hr2, hd4⟩
  have hd5 := hd3.trans hd4
  have k5 := k3.dr hd4 (by decide)
  have kb5 := kb3.dr hd4 (by decide)
  have hO5 := hO3.dr hd4 (by decide)
  clear hnx hd3 k3 kb3 hO3 hd4
  by_cases h0 : r = 0
  · have e0 : (r == 0) = true := by simp [h0]
    obtain ⟨q0, q1⟩ := kb5.two
    have hd6 := (Dr.refl hd5.s').alloc (.cells #[.int .i64 4, .int .i64 1, .int .i64 17, .int .i64 0] 2)
    have hpk := pick_any g w3.heap.size [4, 1, 17, 0] _ hd6.s' (Blk.new w3 2 _) (by decide) (by decide)
    go_wp2_with fail
    refine hpk.mono ?_
    rintro e w4 ⟨P2, hP, rfl, hd7⟩
    have hd67 := hd6.trans hd7
    have k7 := k5.dr hd67 (by decide)
    have kb7 := kb5.dr hd67 (by decide)
    have hO7 := hO5.dr hd67 (by decide)
    have hd8 := hd5.trans hd67
    obtain ⟨p0, p1⟩ := k7.two
    have f0 := k7.frozen 0
    have f1 := k7.frozen 1
    have g0 := kb7.frozen 0
    have g1 := kb7.cell 0
    have g2 := kb7.cell 1
    simp only [List.getElem?_toArray, List.getElem?_cons_zero, List.getElem?_cons_succ] at g1 g2
    clear hpk hd6 hd7 hd67 k5 kb5 hO5 hd5 q0 q1
    go_wp2
    have k8 := k7.far (p := ⟨w2.heap.size, 0, none⟩) (show w.heap.size ≠ w2.heap.size by omega) (.int .i64 P2)
    have hO8 := hO7.far kb7 (by decide) 0 (.int .i64 P2)
    have hd9 := hd8.setNew (b := w2.heap.size) (by omega) 0 (.int .i64 P2)
    obtain ⟨w5, hw5⟩ : ∃ W, W = w4.setCell ⟨w2.heap.size, 0, none⟩ (.int .i64 P2) := ⟨_, rfl⟩
    rw [← hw5] at k8 hO8 hd9 ⊢
    obtain ⟨p0, p1⟩ := k8.two
    first | exact bodyPost_ret (v := .agg #[.int .i64 P2, .slice A n c]) (by simp [results, Tryz.results70, go_sem, p0, p1]) rfl ⟨P2, A, n, c, xs, rfl, by simp at hP; omega, by omega, (space_back k8 (Nat.le_refl _) hO8 hd9).1, (space_back k8 (Nat.le_refl _) hO8 hd9).2⟩ | exact bodyPost_ret (v := .agg #[.int .i64 P2, .slice A n c]) (by simp [results, Tryz.results70, go_sem, p0, p1]) rfl ⟨P2, A, n, c, rfl, by simp at hP; omega, by omega, ⟨xs, (space_back k8 (Nat.le_refl _) hO8 hd9).1⟩, (space_back k8 (Nat.le_refl _) hO8 hd9).2⟩
  · have e0 : (r == 0) = false := by simp [h0]
    by_cases h1 : r = 1
    · have e1 : (r == 1) = true := by simp [h1]
      rcases hO5.form with ⟨_, hz⟩ | ⟨gA, rfl, hg1, hg2⟩
      · omega
      obtain ⟨q0, q1⟩ := kb5.two
      have i1 : (0 : Int) < (n : Int) := by omega
      have i2 : 0 < n := by omega
      go_wp2
      refine wp_obsR 8 (Dr g 121) [[], [0], [], [], [3], [3, 4], [2, 3, 4, 5], [0, 1], [0, 1, 2, 3, 4, 5, 6, 7]] [[], [], [], [], [], [], [5], []] (fun x => [VIs (.pointer (some ⟨w2.heap.size, 1, none⟩)), VIs (.slice (some ⟨gA, 0, none⟩) n c), VIs (.pointer (some ⟨g, 0, none⟩)), VIs (.pointer (some ⟨w2.heap.size, 0, none⟩)), VIs (.int .i64 (P)), VBs 2 #[.int .i64 (-1), .int .i64 P], VNum, VIs (.pointer (some ⟨gA, 0, none⟩))]) (fun w' => Blk w' w.heap.size 28 #[.int .i64 0, .slice none 0 0] ∧ Blk w' w2.heap.size 28 #[.int .i64 P, .slice (some ⟨gA, 0, none⟩) n c] ∧ Own w' w.heap.size 2 (some ⟨gA, 0, none⟩) n c (ints xs) ∧ Dr g 121 w w') (by kernel_rfl) (by kernel_rfl) (fun x x' j hx => by
          rcases j with _ | _ | _ | _ | _ | _ | _ | _ | j
          · rfl
          · rfl
          · rfl
          · rfl
          · rfl
          · rfl
          · rfl
          · rfl
          · rfl)
        (weak_ofR [0, 1, 2, 3, 4, 7] (by decide) (fun k hk x v w w' hp hr => by
          simp only [List.mem_cons, List.not_mem_nil, or_false] at hk
          rcases hk with rfl | rfl | rfl | rfl | rfl | rfl
          · exact hp
          · exact hp
          · exact hp
          · exact hp
          · exact hp
          · exact hp)) (fun j _ _ h hb => hb.either (fun hb => ⟨h.1.below hb h.1.lt, h.2.1.below hb h.2.1.lt, h.2.2.1.below hb, h.2.2.2.then hb⟩) (fun hr => ⟨h.1.dr hr (by decide), h.2.1.dr hr (by decide), h.2.2.1.dr hr (by decide), h.2.2.2.trans hr⟩)) (⟨k5.drew, kb5.drew, hO5.below (Below.refl _ _).drew, hd5.then (Below.refl _ _).drew⟩) (fun x => ?_)
      refine obs_stepR (Eq.trans (by simp only [List.getElem?_toArray, List.getElem?_cons_zero]; exact rfl) rfl) rfl (fun w' hS hV K hK => ?_) ?_
      · obtain ⟨q0, q1⟩ := hS.2.1.two
        go_simp
        exact hK.out _ _ _ rfl rfl rfl (Below.refl _ _)
      simp only [List.setIfInBounds_toArray, List.set_cons_zero, List.set_cons_succ]
      refine obs_stepR (Eq.trans (by simp only [List.getElem?_toArray, List.getElem?_cons_succ, List.getElem?_cons_zero]; exact rfl) rfl) rfl (fun w' hS hV K hK => ?_) ?_
      · have e0 : x 0 = (.pointer (some ⟨w2.heap.size, 1, none⟩)) := hV 0 (by decide)
        obtain ⟨q0, q1⟩ := hS.2.1.two
        go_simp
        exact hK.out _ _ _ rfl rfl rfl (Below.refl _ _)
      simp only [List.setIfInBounds_toArray, List.set_cons_zero, List.set_cons_succ]
      refine obs_stepR (Eq.trans (by simp only [List.getElem?_toArray, List.getElem?_cons_succ, List.getElem?_cons_zero]; exact rfl) rfl) rfl (fun w' hS hV K hK => ?_) ?_
      · obtain ⟨q0, q1⟩ := hS.2.1.two
        go_simp
        exact hK.out _ _ _ rfl rfl rfl (Below.refl _ _)
      simp only [List.setIfInBounds_toArray, List.set_cons_zero, List.set_cons_succ]
      refine obs_stepR (Eq.trans (by simp only [List.getElem?_toArray, List.getElem?_cons_succ, List.getElem?_cons_zero]; exact rfl) rfl) rfl (fun w' hS hV K hK => ?_) ?_
      · obtain ⟨q0, q1⟩ := hS.2.1.two
        go_simp
        exact hK.out _ _ _ rfl rfl rfl (Below.refl _ _)
      simp only [List.setIfInBounds_toArray, List.set_cons_zero, List.set_cons_succ]
      refine obs_stepR (Eq.trans (by simp only [List.getElem?_toArray, List.getElem?_cons_succ, List.getElem?_cons_zero]; exact rfl) rfl) rfl (fun w' hS hV K hK => ?_) ?_
      · have e3 : x 3 = (.pointer (some ⟨w2.heap.size, 0, none⟩)) := hV 3 (by decide)
        obtain ⟨q0, q1⟩ := hS.2.1.two
        go_simp
        exact hK.out _ _ _ rfl rfl rfl (Below.refl _ _)
      simp only [List.setIfInBounds_toArray, List.set_cons_zero, List.set_cons_succ]
      refine obs_stepR (Eq.trans (by simp only [List.getElem?_toArray, List.getElem?_cons_succ, List.getElem?_cons_zero]; exact rfl) rfl) rfl (fun w' hS hV K hK => ?_) ?_
      · have e3 : x 3 = (.pointer (some ⟨w2.heap.size, 0, none⟩)) := hV 3 (by decide)
        have e4 : x 4 = (.int .i64 (P)) := hV 4 (by decide)
        obtain ⟨q0, q1⟩ := hS.2.1.two
        go_simp
        exact hK.out _ _ _ rfl rfl ⟨_, rfl, Blk.new _ _ _⟩ ((Below.refl _ _).alloc (Nat.le_refl _) _)
      simp only [List.setIfInBounds_toArray, List.set_cons_zero, List.set_cons_succ]
      refine obs_stepR (Eq.trans (by simp only [List.getElem?_toArray, List.getElem?_cons_succ, List.getElem?_cons_zero]; exact rfl) rfl) rfl (fun w' hS hV K hK => ?_) ?_
      · have e2 : x 2 = (.pointer (some ⟨g, 0, none⟩)) := hV 2 (by decide)
        have e3 : x 3 = (.pointer (some ⟨w2.heap.size, 0, none⟩)) := hV 3 (by decide)
        have e4 : x 4 = (.int .i64 (P)) := hV 4 (by decide)
        obtain ⟨G5, e5, b5⟩ := hV 5 (by decide)
        obtain ⟨q0, q1⟩ := hS.2.1.two
        go_simp
        refine (pick_any g G5 [-1, P] _ hS.2.2.2.s' (by rw [ints2]; exact b5) (by simp) (by simp)).mono ?_
        rintro e v1 ⟨r1, _, rfl, hr⟩
        exact hK.out _ _ _ rfl rfl ⟨_, rfl⟩ hr
      simp only [List.setIfInBounds_toArray, List.set_cons_zero, List.set_cons_succ]
      refine obs_stepR (Eq.trans (by simp only [List.getElem?_toArray, List.getElem?_cons_succ, List.getElem?_cons_zero]; exact rfl) rfl) rfl (fun w' hS hV K hK => ?_) ?_
      · have e0 : x 0 = (.pointer (some ⟨w2.heap.size, 1, none⟩)) := hV 0 (by decide)
        have e1 : x 1 = (.slice (some ⟨gA, 0, none⟩) n c) := hV 1 (by decide)
        obtain ⟨q0, q1⟩ := hS.2.1.two
        go_simp
        exact hK.out _ _ _ rfl rfl rfl (Below.refl _ _)
      simp only [List.setIfInBounds_toArray, List.set_cons_zero, List.set_cons_succ]
      refine fun w' hS hV => ?_
      have e0 : x 0 = (.pointer (some ⟨w2.heap.size, 1, none⟩)) := hV 0 (by decide)
      have e1 : x 1 = (.slice (some ⟨gA, 0, none⟩) n c) := hV 1 (by decide)
      have e2 : x 2 = (.pointer (some ⟨g, 0, none⟩)) := hV 2 (by decide)
      have e3 : x 3 = (.pointer (some ⟨w2.heap.size, 0, none⟩)) := hV 3 (by decide)
      have e4 : x 4 = (.int .i64 (P)) := hV 4 (by decide)
      obtain ⟨rv, e6⟩ := hV 6 (by decide)
      have e7 : x 7 = (.pointer (some ⟨gA, 0, none⟩)) := hV 7 (by decide)
      simp only [e0, e1, e2, e3, e4, e6, e7]
      clear e0 e1 e2 e3 e4 e6 e7
      obtain ⟨k6, kb6, hO6, hd6⟩ := hS
      obtain ⟨w6, rfl⟩ : ∃ W, W = w' := ⟨_, rfl⟩
      obtain ⟨gB, oB, eB, hxB, hcB⟩ := hO6.rd.int (show 0 < n by omega)
      injection eB with eB
      injection eB with eB1 eB2 _
      subst eB1; subst eB2
      rw [Nat.zero_add] at hcB
      have ff := hO6.frozen_ 0
      refine any_one (j := 8) (by kernel_rfl) (Eq.trans (by simp only [List.getElem?_toArray, List.getElem?_cons_succ, List.getElem?_cons_zero]; exact rfl) rfl) (fun K hK => ?_)
      go_simp
      refine hK.out _ _ (wpAny_done (by kernel_rfl) ?_ _)
      obtain ⟨hO7, hg7⟩ := hO6.set_ 0 (.int .i64 rv)
      rw [ints_set] at hO7
      have k7 := k6.grown hg7 (hO6.ne_blk k6 (by decide))
      have kb7 := kb6.grown hg7 (hO6.ne_blk kb6 (by decide))
      have hd7 := hd6.grown hO6 hg7
      obtain ⟨w7, hw7⟩ : ∃ W, W = w6.setCell ⟨gA, 0, none⟩ (.int .i64 rv) := ⟨_, rfl⟩
      rw [← hw7] at hO7 k7 kb7 hd7 ⊢
      obtain ⟨p0, p1⟩ := k7.two
      have f0 := k7.frozen 0
      have f1 := k7.frozen 1
      obtain ⟨g1, g2⟩ := kb7.two
      clear q0 q1 k5 kb5 hO5 hd5 k6 kb6 hO6 hd6 hg7 hw7 hcB ff
      go_wp2
      first | exact bodyPost_ret (v := .agg #[.int .i64 P, .slice (some ⟨gA, 0, none⟩) n c]) (by simp [results, Tryz.results70, go_sem, p0, p1]) rfl ⟨P, (some ⟨gA, 0, none⟩), n, c, (xs.set 0 rv), rfl, by omega, by omega, (space_back k7 (Nat.le_refl _) hO7 hd7).1, (space_back k7 (Nat.le_refl _) hO7 hd7).2⟩ | exact bodyPost_ret (v := .agg #[.int .i64 P, .slice (some ⟨gA, 0, none⟩) n c]) (by simp [results, Tryz.results70, go_sem, p0, p1]) rfl ⟨P, (some ⟨gA, 0, none⟩), n, c, rfl, by omega, by omega, ⟨(xs.set 0 rv), (space_back k7 (Nat.le_refl _) hO7 hd7).1⟩, (space_back k7 (Nat.le_refl _) hO7 hd7).2⟩
    · have e1 : (r == 1) = false := by simp [h1]
      by_cases h2 : r = 2
      · have e2 : (r == 2) = true := by simp [h2]
        have kA := k5.alloc (.cells #[] 2)
        have kbA := kb5.alloc (.cells #[] 2)
        have hdA := hd5.alloc (.cells #[] 2)
        have hOA : Own (w3.alloc (.cells #[] 2)) w.heap.size 2 (some ⟨w3.heap.size, 0, none⟩) 0 0 (ints []) := Own.of_cells (cs := #[]) (Nat.le_trans (Nat.le_of_lt hlt2) (Nat.le_trans (Nat.le_of_lt kb5.lt) (Nat.le_refl _))) (Blk.new w3 2 #[]) (by simp [maxLen])
        obtain ⟨p0, p1⟩ := kA.two
        have f0 := kA.frozen 0
        have f1 := kA.frozen 1
        obtain ⟨g1, g2⟩ := kbA.two
        have g0 := kbA.frozen 1
        go_wp2
        have k8 := kA.far (p := ⟨w2.heap.size, 1, none⟩) (show w.heap.size ≠ w2.heap.size by omega) (.slice (some ⟨w3.heap.size, 0, none⟩) 0 0)
        have hO8 := hOA.far kbA (by decide) 1 (.slice (some ⟨w3.heap.size, 0, none⟩) 0 0)
        have hd9 := hdA.setNew (b := w2.heap.size) (by omega) 1 (.slice (some ⟨w3.heap.size, 0, none⟩) 0 0)
        obtain ⟨w5, hw5⟩ : ∃ W, W = (w3.alloc (.cells #[] 2)).setCell ⟨w2.heap.size, 1, none⟩ (.slice (some ⟨w3.heap.size, 0, none⟩) 0 0) := ⟨_, rfl⟩
        rw [← hw5] at k8 hO8 hd9 ⊢
        obtain ⟨p0, p1⟩ := k8.two
        first | exact bodyPost_ret (v := .agg #[.int .i64 P, .slice (some ⟨w3.heap.size, 0, none⟩) 0 0]) (by simp [results, Tryz.results70, go_sem, p0, p1]) rfl ⟨P, (some ⟨w3.heap.size, 0, none⟩), 0, 0, [], rfl, by omega, by omega, (space_back k8 (Nat.le_refl _) hO8 hd9).1, (space_back k8 (Nat.le_refl _) hO8 hd9).2⟩ | exact bodyPost_ret (v := .agg #[.int .i64 P, .slice (some ⟨w3.heap.size, 0, none⟩) 0 0]) (by simp [results, Tryz.results70, go_sem, p0, p1]) rfl ⟨P, (some ⟨w3.heap.size, 0, none⟩), 0, 0, rfl, by omega, by omega, ⟨[], (space_back k8 (Nat.le_refl _) hO8 hd9).1⟩, (space_back k8 (Nat.le_refl _) hO8 hd9).2⟩
      · have e2 : (r == 2) = false := by simp [h2]
        by_cases h3 : r = 3
        · have e3 : (r == 3) = true := by simp [h3]
          go_wp2
          go_loopw [] (fun wr => ∃ (j : Nat) (A1 : Option Addr) (c1 : Nat) (xs1 : List Int), j ≤ 7 ∧ Blk wr w.heap.size 28 #[.int .i64 0, .slice none 0 0] ∧ Blk wr w2.heap.size 28 #[.int .i64 P, .slice A1 j c1] ∧ Own wr w.heap.size 2 A1 j c1 (ints xs1) ∧ Dr g 121 w wr) (fun wr => 7 - (match wr.cell? ⟨w2.heap.size, 1, none⟩ with | some (.slice _ l _) => l | _ => 0))
          case atStart => exact ⟨n, A, c, xs, by omega, k5, kb5, hO5, hd5⟩
          case round =>
            obtain ⟨j, A1, c1, xs1, hj, k6, kb6, hO6, hd6⟩ := hrel
            clear k5 kb5 hO5 hd5
            obtain ⟨q0, q1⟩ := kb6.two
            by_cases hlt : j < 7
            · have d7 : decide ((j : Int) < 7) = true := by rw [decide_eq_true_eq]; omega
              go_wp2_with (at_builtin; refine wpList_app1 (cutW wr w.heap.size) wr 22 2 _ _ Tryz.underlying22 info_i rfl (by omega) rfl _ _ rfl A1 j c1 _ _ (hO6.mk_ hd6.size) (by omega) rfl rfl rfl ?_; intro A8 c8 w8 hM8 hg8 _
                           have k4a := k6.grown hg8 (hO6.ne_blk k6 (by decide))
                           have k6a := kb6.grown hg8 (hO6.ne_blk kb6 (by decide))
                           have hO7 := hM8.own_ (cutW_size hd6.size)
                           have hd7 := hd6.grown hO6 hg8
                           have f8 := k6a.frozen 1
                           obtain ⟨f9, f10⟩ := k6a.two)
              have k4b := k4a.far (p := ⟨w2.heap.size, 1, none⟩) (show w.heap.size ≠ w2.heap.size by omega) (.slice A8 (j + 1) c8)
              have k6b := k6a.set_ 1 (.slice A8 (j + 1) c8)
              have hO8 := hO7.far k6a (by decide) 1 (.slice A8 (j + 1) c8)
              have hd8 := hd7.setNew (b := w2.heap.size) (by omega) 1 (.slice A8 (j + 1) c8)
              simp only [List.setIfInBounds_toArray, List.set_cons_zero, List.set_cons_succ] at k6b
              have hm2 := k6b.two.2
              clear k4a k6a hO7 hd7 f8 f9 f10 hM8 hg8
              go_roundw
              case rel => exact ⟨j + 1, A8, c8, xs1 ++ [1], by omega, k4b, k6b, by simpa [ints] using hO8, hd8⟩
              case measure =>
                simp only [hm2, q1]
                show 7 - (j + 1) < 7 - j
                omega
            · have d7 : decide ((j : Int) < 7) = false := by rw [decide_eq_false_iff_not]; omega
              obtain ⟨p0, p1⟩ := k6.two
              have f0 := k6.frozen 0
              have f1 := k6.frozen 1
              go_wp2
              first | exact bodyPost_ret (v := .agg #[.int .i64 P, .slice A1 j c1]) (by simp [results, Tryz.results70, go_sem, p0, p1]) rfl ⟨P, A1, j, c1, xs1, rfl, by omega, by omega, (space_back k6 (Nat.le_refl _) hO6 hd6).1, (space_back k6 (Nat.le_refl _) hO6 hd6).2⟩ | exact bodyPost_ret (v := .agg #[.int .i64 P, .slice A1 j c1]) (by simp [results, Tryz.results70, go_sem, p0, p1]) rfl ⟨P, A1, j, c1, rfl, by omega, by omega, ⟨xs1, (space_back k6 (Nat.le_refl _) hO6 hd6).1⟩, (space_back k6 (Nat.le_refl _) hO6 hd6).2⟩
        · have e3 : (r == 3) = false := by simp [h3]
          obtain ⟨p0, p1⟩ := k5.two
          have f0 := k5.frozen 0
          have f1 := k5.frozen 1
          obtain ⟨q0, q1⟩ := kb5.two
          go_wp2
          first | exact bodyPost_ret (v := .agg #[.int .i64 P, .slice A n c]) (by simp [results, Tryz.results70, go_sem, p0, p1]) rfl ⟨P, A, n, c, xs, rfl, by omega, by omega, (space_back k5 (Nat.le_refl _) hO5 hd5).1, (space_back k5 (Nat.le_refl _) hO5 hd5).2⟩ | exact bodyPost_ret (v := .agg #[.int .i64 P, .slice A n c]) (by simp [results, Tryz.results70, go_sem, p0, p1]) rfl ⟨P, A, n, c, rfl, by omega, by omega, ⟨xs, (space_back k5 (Nat.le_refl _) hO5 hd5).1⟩, (space_back k5 (Nat.le_refl _) hO5 hd5).2⟩
end Go.Proofs.YticofgmmjecleaaGreatDoor
namespace Go.Proofs.YticofgmmjecleaaGreatDoor
open Go Go.RowKit
/-- How far a source is: what is left of its code, then the count of its number. -/
def dme (g nb : Nat) (M : Int → Nat) (w : World) : Nat :=
  match w.cell? ⟨g, 1, none⟩, w.cell? ⟨g, 2, none⟩ with
  | some (.int _ pl), some (.int _ h) => (nb - pl.toNat) * 288230376151711744 + M h
  | _, _ => 0
theorem SrcA.dme {w : World} {g : Nat} {T : TypeId} {nb pl : Nat} {h : Int} (s : SrcA w g T nb pl h) (M : Int → Nat) : dme g nb M w = (nb - pl) * 288230376151711744 + M h := by
  obtain ⟨c1, c2⟩ := s.cells
  unfold Proofs.YticofgmmjecleaaGreatDoor.dme
  rw [c1, c2]
  simp
/-- How long a text may have become. -/
def Lng (M : Int → Nat) (nb pl : Nat) (h : Int) (l : Nat) : Prop := (pl < nb ∧ l ≤ 8000 + 2 * pl) ∨ (pl = nb ∧ l + 2 * M h ≤ 288230376151728000)
theorem Lng.big {M : Int → Nat} {nb pl : Nat} {h : Int} {l : Nat} (x : Lng M nb pl h l) (hn : nb ≤ 4096) : l ≤ 288230376151728000 := by
  rcases x with ⟨h1, h2⟩ | ⟨h1, h2⟩ <;> omega
theorem Lng.next {M : Int → Nat} (hM : ∀ h, M h ≤ 144115188075855872) (hM2 : ∀ h h', (eqM h' (itI 2 h) ∨ eqM h' (itI 4 h)) → xI (gI h) % 5 = 0 → M h' < M h) {nb pl pl1 pl2 : Nat} {h h1 h2 : Int} {l l' : Nat} (x : Lng M nb pl h l) (hl : l' ≤ l + 2) (hn : nb ≤ 4096) (hp1 : pl1 = (if pl < nb then pl + 1 else pl)) (hp2 : pl1 ≤ pl2) (hp3 : pl2 ≤ nb)
    (e1 : eqM h1 (gI h)) (e2 : eqM h2 (gI h1) ∨ eqM h2 (itI 3 h1)) (hr : pl = nb → 0 = xI (gI h) % 5) :
    Lng M nb pl2 h2 l' ∧ (nb - pl2) * 288230376151711744 + M h2 < (nb - pl) * 288230376151711744 + M h := by
  have m2 := hM h2
  rcases x with ⟨hlt, hb⟩ | ⟨he, hb⟩
  · rw [if_pos hlt] at hp1
    refine ⟨?_, by omega⟩
    by_cases hq : pl2 < nb
    · exact .inl ⟨hq, by omega⟩
    · exact .inr ⟨by omega, by omega⟩
  · rw [if_neg (by omega)] at hp1
    have e3 : eqM h2 (itI 2 h) ∨ eqM h2 (itI 4 h) := e2.elim (fun e => .inl (eqM_trans e (eqM_step e1))) (fun e => .inr (eqM_trans e (it_mod 3 e1)))
    have m3 := hM2 h h2 e3 (hr he).symm
    exact ⟨.inr ⟨by omega, by omega⟩, by omega⟩
end Go.Proofs.YticofgmmjecleaaGreatDoor
namespace Go.Proofs.YticofgmmjecleaaGreatDoor
open Go.RowKit
set_option maxHeartbeats 400000 in
set_option maxRecDepth 8000 in
theorem l04Zero_any (P : Int) (A : Option Addr) (n c : Nat) (w : World) (hn : n ≤ 10) :
    Calls Tryz.prog 51 #[.agg #[.int .i64 P, .slice A n c]] w fun e w' => ∃ A' c', e = .returned (.slice A' (pw n) c') ∧ MkI w w' A' (pw n) c' (List.replicate (pw n) 0) := by
  have hp : pw n ≤ 1024 := pw_le hn
  have hmk := make_i (P := Tryz.prog) 22 2 Tryz.underlying22 info_i (pw n) (by omega)
  go_enter Tryz.func51, Tryz.ntmps51
  go_wp2_with (go_at_call 74; refine (l04Size_any _ _ _ _ _ (by omega)).mono ?_; rintro e w1 ⟨rfl, hb1⟩)
  go_ret
  have hb2 := (((Below.refl _ _).alloc (Nat.le_refl _) _).trans (hb1.mono (by simp)))
  exact ⟨_, _, rfl, by have := Mk.made (E := 2) (n := pw n) (z := .int .i64 0) hb2 (by simp only [maxLen]; omega); rwa [ints_replicate] at this⟩
set_option maxHeartbeats 400000 in
set_option maxRecDepth 8000 in
theorem l04One_any (P : Int) (A : Option Addr) (n c : Nat) (w : World) (hn : n ≤ 10) :
    Calls Tryz.prog 109 #[.agg #[.int .i64 P, .slice A n c]] w fun e w' => ∃ A' c', e = .returned (.slice A' (pw n) c') ∧ MkI w w' A' (pw n) c' (bladeL n 0) := by
  have hB0 : Below w.heap.size w (w.alloc (.cells #[.int .i64 P, .slice A n c] 28)) := (Below.refl _ w).alloc (Nat.le_refl _) _
  have hm := pw_pos n
  go_enter Tryz.func109, Tryz.ntmps109
  go_wp2_with (go_at_call 51; refine (l04Zero_any _ _ _ _ _ hn).mono ?_; rintro e w1 ⟨G, c1, rfl, hM1⟩; have hM := hM1.after hB0; rcases hM.2.form with ⟨_, h0⟩ | ⟨g, rfl, hg, _⟩; (omega); obtain ⟨u1, hc1⟩ := hM.2.cellI hm; have hf1 := hM.2.frozen_ 0; have hset := (hM.set 0 (.int .i64 1)).1; rw [ints_set] at hset; have HS := Lib.hid hset; clear hM hM1 hset)
  go_ret
  exact ⟨_, _, rfl, HS.out⟩
set_option maxHeartbeats 800000 in
set_option maxRecDepth 8000 in
theorem l04Vector_any (P : Int) (A : Option Addr) (n c : Nat) (X : Option Addr) (cx : Nat) (v : List Int) (w : World) (hn : n ≤ 10) (hx : Rd w X n (ints v)) :
    Calls Tryz.prog 107 #[.agg #[.int .i64 P, .slice A n c], .slice X n cx] w fun e w' => ∃ A' c', e = .returned (.slice A' (pw n) c') ∧ MkI w w' A' (pw n) c' (vecTo n v n) := by
  have hB0 : Below w.heap.size w (w.alloc (.cells #[.int .i64 P, .slice A n c] 28)) := (Below.refl _ w).alloc (Nat.le_refl _) _
  go_enter Tryz.func107, Tryz.ntmps107
  go_wp2_with (go_at_call 51; refine (l04Zero_any _ _ _ _ _ hn).mono ?_; rintro e w1 ⟨G, c1, rfl, hM1⟩)
  have hM := hM1.after hB0
  have hpos := pw_pos n
  rcases hM.2.form with ⟨_, h0⟩ | ⟨g, rfl, hg, _⟩
  · omega
  clear hM1 hB0 hg hpos
  go_loopw [6] (fun i wr => ∃ k : Nat, k ≤ n ∧ i = .int .i64 k ∧ MkI w wr (some ⟨g, 0, none⟩) (pw n) c1 (vecTo n v k)) (fun i _ => n - (intOf i).toNat)
  case atStart => exact ⟨0, by omega, rfl, by simpa [vecTo] using hM⟩
  case round =>
    obtain ⟨k, hk, rfl, hM2⟩ := hrel
    clear hM
    by_cases hlt : k < n
    · obtain ⟨gx, ox, rfl, hxk, hcx⟩ := (hx.below hM2.b).int hlt
      have hvn : v.getD k 0 = v[k] := by rw [List.getD_eq_getElem?_getD, List.getElem?_eq_getElem hxk]; rfl
      have h2 := two_lt hlt
      have hset := (hM2.set (2 ^ k) (.int .i64 v[k])).1
      rw [ints_set, ← hvn, ← vecTo_succ, hvn] at hset
      have hw : wrap64 (2 ^ k) = ((2 ^ k : Nat) : Int) := wrap_pw k (by omega)
      obtain ⟨q, hq⟩ : ∃ q : Nat, q = 2 ^ k := ⟨_, rfl⟩
      rw [← hq] at h2 hset hw
      obtain ⟨hoc, hof⟩ := mkI_at hM2 h2
      have HS := Lib.hid hset
      clear hq
      clear hvn hset hM2
      go_wp2
      go_roundw
      case rel => exact ⟨k + 1, by omega, by go_num, HS.out⟩
      case measure => simp [intOf]; omega
    · obtain rfl : k = n := by omega
      go_wp2
      go_ret
      exact ⟨_, _, rfl, hM2⟩
end Go.Proofs.YticofgmmjecleaaGreatDoor
