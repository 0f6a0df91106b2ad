/-
  Multivectors, doublings, elements: the reference's tests.
-/
import Derived.Test.YtnlfaaooocoicaaSpLeaf
namespace Go.Proofs.Ytnlfaaooocoicaa
open Go.RowKit

theorem u64_wrap_nat (n : Nat) (h : n ≤ 1099511627776) : IntKind.u64.wrap (n : Int) = (n : Int) := IntWalk.u64_in _ (by omega)

set_option maxHeartbeats 400000 in
theorem l04Size_any (P : Int) (A : Option Addr) (n c : Nat) (w : World) (hn : n ≤ 30) :
    Calls Try.prog 44 #[.agg #[.int .i64 P, .slice A n c]] w fun e w' => e = .returned (.int .i64 (pw n)) ∧ Below w.heap.size w w' := by
  go_enter Try.func44, Try.ntmps44
  go_wp2
  go_ret
  exact ⟨ret_int (wrap_pw n hn), (Below.refl _ _).alloc (Nat.le_refl _) _⟩

set_option maxHeartbeats 400000 in
theorem l11Size_any (P : Int) (A : Option Addr) (n c : Nat) (w : World) (hn : n ≤ 30) :
    Calls Try.prog 45 #[.agg #[.int .i64 P, .slice A n c]] w fun e w' => e = .returned (.int .i64 (pw n)) ∧ Below w.heap.size w w' := by
  go_enter Try.func45, Try.ntmps45
  go_wp2
  go_ret
  exact ⟨ret_int (wrap_pw n hn), (Below.refl _ _).alloc (Nat.le_refl _) _⟩

/-- Is it a multivector of a space with the squares xs? -/
def isMu (P : Int) (xs ys : List Int) : Bool := (((ys.length : Nat) : Int) == ((pw xs.length : Nat) : Int)) && nums P ys

theorem inR_16 {n : Nat} (h : inR n 1 6 = true) : 1 ≤ n ∧ n ≤ 6 := by simp [inR] at h; omega
theorem isSp_dim {P : Int} {xs : List Int} (h : isSp P xs = true) : isP P = true ∧ 1 ≤ xs.length ∧ xs.length ≤ 6 ∧ nums P xs = true := by
  simp only [isSp, Bool.and_eq_true] at h
  obtain ⟨⟨h1, h2⟩, h3⟩ := h
  obtain ⟨h4, h5⟩ := inR_16 h2
  exact ⟨h1, h4, h5, h3⟩

set_option maxHeartbeats 1000000 in
theorem l04Is_any (P : Int) (A B : Option Addr) (n c m d : Nat) (xs ys : List Int) (w : World) (hn : n ≤ 1048576) (hm : m ≤ 1048576) (ha : Rd w A n (ints xs)) (hb : Rd w B m (ints ys)) :
    Calls Try.prog 30 #[.agg #[.int .i64 P, .slice A n c], .slice B m d] w fun e w' => e = .returned (.bool (isSp P xs && isMu P xs ys)) ∧ Below w.heap.size w w' := by
  have hxl : xs.length = n := by have := ha.1; rwa [ints_length] at this
  have hyl : ys.length = m := by have := hb.1; rwa [ints_length] at this
  have hB : Below w.heap.size w (w.alloc (.cells #[.int .i64 P, .slice A n c] 24)) := (Below.refl _ _).alloc (Nat.le_refl _) _
  have k0 : Blk (w.alloc (.cells #[.int .i64 P, .slice A n c] 24)) w.heap.size 24 #[.int .i64 P, .slice A n c] := Blk.new _ _ _
  cases h1 : isSp P xs
  · have H1 := Lib.hid h1; clear h1
    have Hx := Lib.hid hxl; have Hy := Lib.hid hyl; clear hxl hyl
    go_enter Try.func30, Try.ntmps30
    go_wp2_with fail
    refine (l03Is_b _ _ _ _ _ _ (by omega) (ha.below hB) H1.out).mono ?_
    rintro e w1 ⟨rfl, hb1⟩
    go_wp2
    go_ret
    exact ⟨rfl, hB.trans (hb1.mono (by simp))⟩
  · obtain ⟨hp, hd1, hd2, hnum⟩ := isSp_dim h1
    obtain ⟨hp0, hp1⟩ := isP_pos hp
    have H1 := Lib.hid h1; clear h1 hp hnum
    have hmu : isMu P xs ys = ((((m : Nat) : Int) == ((pw n : Nat) : Int)) && nums P ys) := by unfold isMu; rw [hxl, hyl]
    have Hmu := Lib.hid hmu; clear hmu
    rw [hxl] at hd1 hd2
    have Hx := Lib.hid hxl; have Hy := Lib.hid hyl; clear hxl hyl
    cases h2 : (((m : Nat) : Int) == ((pw n : Nat) : Int))
    all_goals
      go_enter Try.func30, Try.ntmps30
      go_wp2_with fail
      refine (l03Is_b _ _ _ _ _ _ (by omega) (ha.below hB) H1.out).mono ?_
      rintro e w1 ⟨rfl, hb1⟩
      have k1 := k0.below hb1 k0.lt
      obtain ⟨q0, q1⟩ := k1.two
      have hB1 := hB.trans (hb1.mono (by simp))
      clear k0
      go_wp2_with fail
      refine (l04Size_any _ _ _ _ _ (by omega)).mono ?_
      rintro e w2 ⟨rfl, hb2⟩
      have k2 := k1.below hb2 k1.lt
      obtain ⟨p0, p1⟩ := k2.two
      have hB2 := hB1.trans (hb2.mono hB1.size)
      clear k1 q0 q1
      go_wp2_with fail
    · go_ret
      exact ⟨ret_bool (by rw [Hmu.out, h2]; rfl), hB2⟩
    · refine (l01Numbers_any _ _ _ _ _ _ hp0 (by omega) (by omega) (hb.below hB2)).mono ?_
      rintro e w3 ⟨rfl, rfl⟩
      go_wp2
      go_ret
      exact ⟨ret_bool (by rw [Hmu.out, h2]; rfl), hB2⟩

/-- Is it a doubling? -/
def isDb (P : Int) (xs : List Int) : Bool := isP P && decide (((xs.length : Nat) : Int) ≤ 4) && xs.all fun x => inR x 1 (P - 1)

theorem all_take (f : Int → Bool) (xs : List Int) (k : Nat) (h : k < xs.length) (ht : (xs.take k).all f = true) (hi : f xs[k] = true) : (xs.take (k + 1)).all f = true := by
  rw [List.take_succ_eq_append_getElem h, List.all_append, ht]; simp [hi]
theorem all_bad (f : Int → Bool) (xs : List Int) (k : Nat) (h : k < xs.length) (hi : f xs[k] = false) : xs.all f = false := by
  rw [List.all_eq_false]; exact ⟨xs[k], List.getElem_mem h, by simp [hi]⟩

set_option maxHeartbeats 1000000 in
theorem l11Is_any (P : Int) (A : Option Addr) (n c : Nat) (xs : List Int) (w : World) (hn : n ≤ 1048576) (ha : Rd w A n (ints xs)) :
    Calls Try.prog 31 #[.agg #[.int .i64 P, .slice A n c]] w fun e w' => e = .returned (.bool (isDb P xs)) ∧ Below w.heap.size w w' := by
  have hxl : xs.length = n := by have := ha.1; rwa [ints_length] at this
  have hB : Below w.heap.size w (w.alloc (.cells #[.int .i64 P, .slice A n c] 26)) := (Below.refl _ _).alloc (Nat.le_refl _) _
  have k0 : Blk (w.alloc (.cells #[.int .i64 P, .slice A n c] 26)) w.heap.size 26 #[.int .i64 P, .slice A n c] := Blk.new _ _ _
  have hdb : isDb P xs = (isP P && decide (((n : Nat) : Int) ≤ 4) && xs.all fun x => inR x 1 (P - 1)) := by unfold isDb; rw [hxl]
  have Hdb := Lib.hid hdb; clear hdb
  have Hx := Lib.hid hxl; clear hxl
  cases h1 : isP P
  · have H1 := Lib.hid h1; clear h1
    go_enter Try.func31, Try.ntmps31
    go_wp2_with (go_at_call 41; refine (l01Prime_b _ _ H1.out).mono ?_; rintro e w' ⟨rfl, rfl⟩)
    go_ret
    exact ⟨ret_bool (by rw [Hdb.out, H1.out]; rfl), hB⟩
  obtain ⟨hp0, hp1⟩ := isP_pos h1
  have H1 := Lib.hid h1; clear h1
  by_cases h4 : n ≤ 4
  · have h4' : decide ((4 : Int) < (n : Int)) = false := by simp; omega
    go_enter Try.func31, Try.ntmps31
    go_wp2_with (go_at_call 41; refine (l01Prime_b _ _ H1.out).mono ?_; rintro e w' ⟨rfl, rfl⟩)
    have ha' := ha.below hB
    obtain ⟨W, hW⟩ : ∃ W, W = w.alloc (.cells #[.int .i64 P, .slice A n c] 26) := ⟨_, rfl⟩
    obtain ⟨b, hbz⟩ : ∃ b, b = w.heap.size := ⟨_, rfl⟩
    rw [← hbz]
    rw [← hbz, ← hW] at k0
    rw [← hW] at ha' hB ⊢
    have HW := Lib.hid hW
    have HB := Lib.hid hbz
    clear hW hbz ha
    go_loopw [3] (fun i wr => ∃ k j : Nat, k ≤ n ∧ i = .int .i64 k ∧ (xs.take k).all (fun x => inR x 1 (P - 1)) = true ∧ wr = W.drewN j) (fun i _ => n - (intOf i).toNat)
    case atStart => exact ⟨0, 0, by omega, rfl, by simp, rfl⟩
    case round =>
      obtain ⟨k, j, hk, rfl, ht, rfl⟩ := hrel
      have H := Lib.hid ht; clear ht
      obtain ⟨q0, q1⟩ := k0.two
      by_cases hlt : k < n
      · obtain ⟨g, o, rfl, hx, hcx⟩ := ha'.int hlt
        cases hi : inR xs[k] 1 (P - 1)
        all_goals
          have HI := Lib.hid hi; clear hi
          go_wp2_with fail
          go_quiet ((go_at_call 42; exact quiet_add_left (l01In_b _ _ _ _ HI.out)))
          go_wp2
        · go_ret
          exact ⟨ret_bool (by rw [Hdb.out, H1.out, all_bad (fun x => inR x 1 (P - 1)) xs k hx HI.out, Bool.and_false]), below_drewN (below_drewN hB _) _⟩
        · go_roundw
          case rel => exact ⟨k + 1, _, by omega, by go_num, all_take (fun x => inR x 1 (P - 1)) xs k hx H.out HI.out, rfl⟩
          case measure => simp [intOf]; omega
      · go_wp2
        go_ret
        have := H.out
        rw [List.take_of_length_le (by rw [Hx.out]; omega)] at this
        exact ⟨ret_bool (by rw [Hdb.out, H1.out, this]; simp; omega), below_drewN hB _⟩
  · have h4' : decide ((4 : Int) < (n : Int)) = true := by simp; omega
    go_enter Try.func31, Try.ntmps31
    go_wp2_with (go_at_call 41; refine (l01Prime_b _ _ H1.out).mono ?_; rintro e w' ⟨rfl, rfl⟩)
    go_ret
    exact ⟨ret_bool (by rw [Hdb.out, H1.out]; simp; omega), hB⟩

end Go.Proofs.Ytnlfaaooocoicaa
