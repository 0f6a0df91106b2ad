/-
  Elements of doublings; desks of the reference.
-/
import Derived.Test.YtnlfaaooocoicaaPred
namespace Go.Proofs.Ytnlfaaooocoicaa
open Go.RowKit

/-- Is it an element of a doubling with n steps? -/
def isEl (P : Int) (n : Nat) (ys : List Int) : Bool := nums P ys && (((ys.length : Nat) : Int) == ((pw n : Nat) : Int))

set_option maxHeartbeats 1000000 in
theorem l11Element_any (P : Int) (A B : Option Addr) (n c m d : Nat) (ys : List Int) (w : World) (hn : n ≤ 4) (hm : m ≤ 1048576) (hp0 : 0 < P) (hp1 : P ≤ 13) (hb : Rd w B m (ints ys)) :
    Calls Try.prog 32 #[.agg #[.int .i64 P, .slice A n c], .slice B m d] w fun e w' => e = .returned (.bool (isEl P n ys)) ∧ Below w.heap.size w w' := by
  have hyl : ys.length = m := by have := hb.1; rwa [ints_length] at this
  have hB : Below w.heap.size w (w.alloc (.cells #[.int .i64 P, .slice A n c] 26)) := (Below.refl _ _).alloc (Nat.le_refl _) _
  have k0 : Blk (w.alloc (.cells #[.int .i64 P, .slice A n c] 26)) w.heap.size 26 #[.int .i64 P, .slice A n c] := Blk.new _ _ _
  have hel : isEl P n ys = (nums P ys && (((m : Nat) : Int) == ((pw n : Nat) : Int))) := by unfold isEl; rw [hyl]
  have Hel := Lib.hid hel; clear hel
  have Hy := Lib.hid hyl; clear hyl
  go_enter Try.func32, Try.ntmps32
  go_wp2
  have hb' := hb.below hB
  obtain ⟨W, hW⟩ : ∃ W, W = w.alloc (.cells #[.int .i64 P, .slice A n c] 26) := ⟨_, rfl⟩
  obtain ⟨b, hbz⟩ : ∃ b, b = w.heap.size := ⟨_, rfl⟩
  rw [← hbz]
  rw [← hbz, ← hW] at k0
  rw [← hW] at hb' hB ⊢
  have HW := Lib.hid hW
  have HB := Lib.hid hbz
  clear hW hbz hb
  go_loopw [5] (fun i wr => ∃ k j : Nat, k ≤ m ∧ i = .int .i64 k ∧ nums P (ys.take k) = true ∧ wr = W.drewN j) (fun i _ => m - (intOf i).toNat)
  case atStart => exact ⟨0, 0, by omega, rfl, by simp [nums], rfl⟩
  case round =>
    obtain ⟨k, j, hk, rfl, ht, rfl⟩ := hrel
    have H := Lib.hid ht; clear ht
    obtain ⟨q0, q1⟩ := k0.two
    by_cases hlt : k < m
    · obtain ⟨g, o, rfl, hx, hcx⟩ := hb'.int hlt
      cases hi : inR ys[k] 0 (P - 1)
      all_goals
        have HI := Lib.hid hi; clear hi
        go_wp2_with fail
        go_quiet ((go_at_call 42; exact quiet_add_left (l01In_b _ _ _ _ HI.out)))
        go_wp2
      · go_ret
        exact ⟨ret_bool (by rw [Hel.out, nums_bad P ys k hx HI.out]; rfl), below_drewN (below_drewN hB _) _⟩
      · go_roundw
        case rel => exact ⟨k + 1, _, by omega, by go_num, nums_take P ys k hx H.out HI.out, rfl⟩
        case measure => simp [intOf]; omega
    · go_wp2_with fail
      refine (l11Size_any _ _ _ _ _ (by omega)).mono ?_
      rintro e w1 ⟨rfl, hb1⟩
      go_wp2
      go_ret
      have := H.out
      rw [List.take_of_length_le (by rw [Hy.out]; omega)] at this
      exact ⟨ret_bool (by rw [Hel.out, this]; rfl), (below_drewN hB _).trans (hb1.mono hB.size)⟩

theorem l04Is_b {b : Bool} (P : Int) (A B : Option Addr) (n c m d : Nat) (xs ys : List Int) (w : World) (hn : n ≤ 1048576) (hm : m ≤ 1048576) (ha : Rd w A n (ints xs)) (hb : Rd w B m (ints ys)) (h : (isSp P xs && isMu P xs ys) = b) :
    Calls Try.prog 30 #[.agg #[.int .i64 P, .slice A n c], .slice B m d] w fun e w' => e = .returned (.bool b) ∧ Below w.heap.size w w' := h ▸ l04Is_any P A B n c m d xs ys w hn hm ha hb
theorem l11Is_b {b : Bool} (P : Int) (A : Option Addr) (n c : Nat) (xs : List Int) (w : World) (hn : n ≤ 1048576) (ha : Rd w A n (ints xs)) (h : isDb P xs = b) :
    Calls Try.prog 31 #[.agg #[.int .i64 P, .slice A n c]] w fun e w' => e = .returned (.bool b) ∧ Below w.heap.size w w' := h ▸ l11Is_any P A n c xs w hn ha
theorem l11Element_b {b : Bool} (P : Int) (A B : Option Addr) (n c m d : Nat) (ys : List Int) (w : World) (hn : n ≤ 4) (hm : m ≤ 1048576) (hp0 : 0 < P) (hp1 : P ≤ 13) (hb : Rd w B m (ints ys)) (h : isEl P n ys = b) :
    Calls Try.prog 32 #[.agg #[.int .i64 P, .slice A n c], .slice B m d] w fun e w' => e = .returned (.bool b) ∧ Below w.heap.size w w' := h ▸ l11Element_any P A B n c m d ys w hn hm hp0 hp1 hb

theorem isDb_dim {P : Int} {xs : List Int} (h : isDb P xs = true) : isP P = true ∧ xs.length ≤ 4 ∧ (xs.all fun x => inR x 1 (P - 1)) = true := by
  simp only [isDb, Bool.and_eq_true, decide_eq_true_eq] at h
  exact ⟨h.1.1, by omega, h.2⟩

/-- Is it a desk? -/
def isDk (P : Int) (xs ys : List Int) (Q : Int) (zs us : List Int) : Bool := (isSp P xs && isMu P xs ys) && (isDb Q zs && isEl Q zs.length us)

set_option maxHeartbeats 2000000 in
theorem specIsDesk_any (P Q : Int) (A B C D : Option Addr) (n m k l c d e f : Nat) (xs ys zs us : List Int) (w : World) (hn : n ≤ 1048576) (hm : m ≤ 1048576) (hk : k ≤ 1048576) (hl : l ≤ 1048576)
    (ha : Rd w A n (ints xs)) (hb : Rd w B m (ints ys)) (hc : Rd w C k (ints zs)) (hd : Rd w D l (ints us)) :
    Calls Try.prog 11 #[.agg #[.int .i64 P, .slice A n c, .slice B m d, .int .i64 Q, .slice C k e, .slice D l f]] w fun e' w' => e' = .returned (.bool (isDk P xs ys Q zs us)) ∧ Below w.heap.size w w' := by
  have hzl : zs.length = k := by have := hc.1; rwa [ints_length] at this
  have hB : Below w.heap.size w (w.alloc (.cells #[.int .i64 P, .slice A n c, .slice B m d, .int .i64 Q, .slice C k e, .slice D l f] 28)) := (Below.refl _ _).alloc (Nat.le_refl _) _
  have k0 : Blk (w.alloc (.cells #[.int .i64 P, .slice A n c, .slice B m d, .int .i64 Q, .slice C k e, .slice D l f] 28)) w.heap.size 28 #[.int .i64 P, .slice A n c, .slice B m d, .int .i64 Q, .slice C k e, .slice D l f] := Blk.new _ _ _
  have hdk : isDk P xs ys Q zs us = ((isSp P xs && isMu P xs ys) && (isDb Q zs && isEl Q k us)) := by unfold isDk; rw [hzl]
  have Hdk := Lib.hid hdk; clear hdk
  have Hz := Lib.hid hzl; clear hzl
  cases h1 : isSp P xs
  · have H1 := Lib.hid h1; clear h1
    go_enter Try.func11, Try.ntmps11
    go_wp2_with fail
    refine (l03Is_b _ _ _ _ _ _ (by omega) (ha.below hB) H1.out).mono ?_
    rintro e1 w1 ⟨rfl, hb1⟩
    go_wp2
    go_ret
    exact ⟨ret_bool (by rw [Hdk.out, H1.out]; rfl), hB.trans (hb1.mono (by simp))⟩
  have H1 := Lib.hid h1; clear h1
  cases h2 : (isSp P xs && isMu P xs ys)
  all_goals
    have H2 := Lib.hid h2; clear h2
  · go_enter Try.func11, Try.ntmps11
    go_wp2_with fail
    refine (l03Is_b _ _ _ _ _ _ (by omega) (ha.below hB) H1.out).mono ?_
    rintro e1 w1 ⟨rfl, hb1⟩
    have hB1 := hB.trans (hb1.mono (by simp))
    obtain ⟨p0, p1, p2, p3, p4, p5⟩ := (k0.below hb1 k0.lt).six
    go_wp2_with fail
    refine (l04Is_b _ _ _ _ _ _ _ _ _ _ (by omega) (by omega) (ha.below hB1) (hb.below hB1) H2.out).mono ?_
    rintro e1 w2 ⟨rfl, hb2⟩
    go_wp2
    go_ret
    exact ⟨ret_bool (by rw [Hdk.out, H2.out]; rfl), hB1.trans (hb2.mono hB1.size)⟩
  cases h3 : isDb Q zs
  · have H3 := Lib.hid h3; clear h3
    go_enter Try.func11, Try.ntmps11
    go_wp2_with fail
    refine (l03Is_b _ _ _ _ _ _ (by omega) (ha.below hB) H1.out).mono ?_
    rintro e1 w1 ⟨rfl, hb1⟩
    have hB1 := hB.trans (hb1.mono (by simp))
    have k1 := k0.below hb1 k0.lt
    obtain ⟨p0, p1, p2, p3, p4, p5⟩ := k1.six
    go_wp2_with fail
    refine (l04Is_b _ _ _ _ _ _ _ _ _ _ (by omega) (by omega) (ha.below hB1) (hb.below hB1) H2.out).mono ?_
    rintro e1 w2 ⟨rfl, hb2⟩
    have hB2 := hB1.trans (hb2.mono hB1.size)
    have k2 := k1.below hb2 k1.lt
    clear p0 p1 p2 p3 p4 p5
    obtain ⟨p0, p1, p2, p3, p4, p5⟩ := k2.six
    go_wp2_with fail
    refine (l11Is_b _ _ _ _ _ _ (by omega) (hc.below hB2) H3.out).mono ?_
    rintro e1 w3 ⟨rfl, hb3⟩
    go_wp2
    go_ret
    exact ⟨ret_bool (by rw [Hdk.out, H2.out, H3.out]; rfl), hB2.trans (hb3.mono hB2.size)⟩
  obtain ⟨hp, hk4, -⟩ := isDb_dim h3
  obtain ⟨hp0, hp1⟩ := isP_pos hp
  rw [Hz.out] at hk4
  have H3 := Lib.hid h3; clear h3 hp
  go_enter Try.func11, Try.ntmps11
  go_wp2_with fail
  refine (l03Is_b _ _ _ _ _ _ (by omega) (ha.below hB) H1.out).mono ?_
  rintro e1 w1 ⟨rfl, hb1⟩
  have hB1 := hB.trans (hb1.mono (by simp))
  have k1 := k0.below hb1 k0.lt
  obtain ⟨p0, p1, p2, p3, p4, p5⟩ := k1.six
  go_wp2_with fail
  refine (l04Is_b _ _ _ _ _ _ _ _ _ _ (by omega) (by omega) (ha.below hB1) (hb.below hB1) H2.out).mono ?_
  rintro e1 w2 ⟨rfl, hb2⟩
  have hB2 := hB1.trans (hb2.mono hB1.size)
  have k2 := k1.below hb2 k1.lt
  clear p0 p1 p2 p3 p4 p5
  obtain ⟨p0, p1, p2, p3, p4, p5⟩ := k2.six
  go_wp2_with fail
  refine (l11Is_b _ _ _ _ _ _ (by omega) (hc.below hB2) H3.out).mono ?_
  rintro e1 w3 ⟨rfl, hb3⟩
  have hB3 := hB2.trans (hb3.mono hB2.size)
  have k3 := k2.below hb3 k2.lt
  clear p0 p1 p2 p3 p4 p5
  obtain ⟨p0, p1, p2, p3, p4, p5⟩ := k3.six
  go_wp2_with fail
  refine (l11Element_any _ _ _ _ _ _ _ _ _ hk4 (by omega) hp0 hp1 (hd.below hB3)).mono ?_
  rintro e1 w4 ⟨rfl, hb4⟩
  go_wp2
  go_ret
  exact ⟨ret_bool (by rw [Hdk.out, H2.out, H3.out]; rfl), hB3.trans (hb4.mono hB3.size)⟩

end Go.Proofs.Ytnlfaaooocoicaa
