/-
  The law's own helpers over desks: sizes and copies.
-/
import Derived.Test.YtnlfaaooocoicaaStruct
namespace Go.Proofs.Ytnlfaaooocoicaa
open Go.RowKit

theorem szL_neg {n : Nat} {left : Int} (h : left - n < 0) : szL n left = -1 := by unfold szL; rw [if_pos h]
theorem szL_pos {n : Nat} {left : Int} (h : 0 ≤ left - n) : szL n left = left - n := by unfold szL; rw [if_neg (by omega)]
theorem szInt64S_b {r : Int} (A : Option Addr) (n c : Nat) (left : Int) (w : World) (hn : n ≤ 9223372036854775807) (h0 : 0 ≤ left) (h1 : left ≤ 1048576) (h : szL n left = r) :
    Calls Try.prog 27 #[.slice A n c, .int .i64 left] w fun e w' => e = .returned (.int .i64 r) ∧ w = w' := h ▸ szInt64S_any A n c left w hn h0 h1
theorem szSpace_b {r : Int} (P : Int) (A : Option Addr) (n c : Nat) (left : Int) (w : World) (hn : n ≤ 9223372036854775807) (h0 : 0 ≤ left) (h1 : left ≤ 1048576) (h : szL n left = r) :
    Calls Try.prog 26 #[.agg #[.int .i64 P, .slice A n c], .int .i64 left] w fun e w' => e = .returned (.int .i64 r) ∧ Below w.heap.size w w' := h ▸ szSpace_any P A n c left w hn h0 h1
theorem szDoubling_b {r : Int} (P : Int) (A : Option Addr) (n c : Nat) (left : Int) (w : World) (hn : n ≤ 9223372036854775807) (h0 : 0 ≤ left) (h1 : left ≤ 1048576) (h : szL n left = r) :
    Calls Try.prog 28 #[.agg #[.int .i64 P, .slice A n c], .int .i64 left] w fun e w' => e = .returned (.int .i64 r) ∧ Below w.heap.size w w' := h ▸ szDoubling_any P A n c left w hn h0 h1

set_option maxHeartbeats 1000000 in
theorem szDesk_no1 (P Q : Int) (A B C D : Option Addr) (n m k l c d e f : Nat) (w : World) (hn : n ≤ 9223372036854775807) (hm : m ≤ 9223372036854775807) (hk : k ≤ 9223372036854775807) (hl : l ≤ 9223372036854775807) (h1 : (1048576 - (n : Int)) < 0) :
    Calls Try.prog 10 #[.agg #[.int .i64 P, .slice A n c, .slice B m d, .int .i64 Q, .slice C k e, .slice D l f], .int .i64 1048576] w fun e' w' => e' = .returned (.int .i64 (-1)) ∧ Below w.heap.size w w' := by
  have hB0 : Below w.heap.size w (w.alloc (.cells #[.int .i64 P, .slice A n c, .slice B m d, .int .i64 Q, .slice C k e, .slice D l f] 36)) := (Below.refl _ _).alloc (Nat.le_refl _) _
  have k0 : Blk (w.alloc (.cells #[.int .i64 P, .slice A n c, .slice B m d, .int .i64 Q, .slice C k e, .slice D l f] 36)) w.heap.size 36 #[.int .i64 P, .slice A n c, .slice B m d, .int .i64 Q, .slice C k e, .slice D l f] := Blk.new _ _ _
  go_enter Try.func10, Try.ntmps10
  go_wp2_with fail
  refine (szSpace_b _ _ _ _ _ _ hn (by omega) (by omega) (szL_neg h1)).mono ?_
  rintro e1 w1 ⟨rfl, hb1⟩
  have hB1 := hB0.trans (hb1.mono (by simp))
  have k1 := k0.below hb1 k0.lt
  go_wp2
  go_ret
  exact ⟨rfl, hB1⟩

set_option maxHeartbeats 1000000 in
theorem szDesk_no2 (P Q : Int) (A B C D : Option Addr) (n m k l c d e f : Nat) (w : World) (hn : n ≤ 9223372036854775807) (hm : m ≤ 9223372036854775807) (hk : k ≤ 9223372036854775807) (hl : l ≤ 9223372036854775807) (h1 : 0 ≤ (1048576 - (n : Int))) (h2 : (1048576 - (n : Int) - m) < 0) :
    Calls Try.prog 10 #[.agg #[.int .i64 P, .slice A n c, .slice B m d, .int .i64 Q, .slice C k e, .slice D l f], .int .i64 1048576] w fun e' w' => e' = .returned (.int .i64 (-1)) ∧ Below w.heap.size w w' := by
  have hB0 : Below w.heap.size w (w.alloc (.cells #[.int .i64 P, .slice A n c, .slice B m d, .int .i64 Q, .slice C k e, .slice D l f] 36)) := (Below.refl _ _).alloc (Nat.le_refl _) _
  have k0 : Blk (w.alloc (.cells #[.int .i64 P, .slice A n c, .slice B m d, .int .i64 Q, .slice C k e, .slice D l f] 36)) w.heap.size 36 #[.int .i64 P, .slice A n c, .slice B m d, .int .i64 Q, .slice C k e, .slice D l f] := Blk.new _ _ _
  have d1 : decide ((1048576 - (n : Int)) < 0) = false := by simpa using h1
  go_enter Try.func10, Try.ntmps10
  go_wp2_with fail
  refine (szSpace_b _ _ _ _ _ _ hn (by omega) (by omega) (szL_pos h1)).mono ?_
  rintro e1 w1 ⟨rfl, hb1⟩
  have hB1 := hB0.trans (hb1.mono (by simp))
  have k1 := k0.below hb1 k0.lt
  have q2 := k1.cell 2
  go_wp2_with fail
  refine (szInt64S_b _ _ _ _ _ hm (by omega) (by omega) (szL_neg h2)).mono ?_
  rintro e1 w2 ⟨rfl, rfl⟩
  go_wp2
  go_ret
  exact ⟨rfl, hB1⟩

set_option maxHeartbeats 1000000 in
theorem szDesk_no3 (P Q : Int) (A B C D : Option Addr) (n m k l c d e f : Nat) (w : World) (hn : n ≤ 9223372036854775807) (hm : m ≤ 9223372036854775807) (hk : k ≤ 9223372036854775807) (hl : l ≤ 9223372036854775807) (h1 : 0 ≤ (1048576 - (n : Int))) (h2 : 0 ≤ (1048576 - (n : Int) - m)) (h3 : (1048576 - (n : Int) - m - k) < 0) :
    Calls Try.prog 10 #[.agg #[.int .i64 P, .slice A n c, .slice B m d, .int .i64 Q, .slice C k e, .slice D l f], .int .i64 1048576] w fun e' w' => e' = .returned (.int .i64 (-1)) ∧ Below w.heap.size w w' := by
  have hB0 : Below w.heap.size w (w.alloc (.cells #[.int .i64 P, .slice A n c, .slice B m d, .int .i64 Q, .slice C k e, .slice D l f] 36)) := (Below.refl _ _).alloc (Nat.le_refl _) _
  have k0 : Blk (w.alloc (.cells #[.int .i64 P, .slice A n c, .slice B m d, .int .i64 Q, .slice C k e, .slice D l f] 36)) w.heap.size 36 #[.int .i64 P, .slice A n c, .slice B m d, .int .i64 Q, .slice C k e, .slice D l f] := Blk.new _ _ _
  have d1 : decide ((1048576 - (n : Int)) < 0) = false := by simpa using h1
  have d2 : decide ((1048576 - (n : Int) - m) < 0) = false := by simpa using h2
  go_enter Try.func10, Try.ntmps10
  go_wp2_with fail
  refine (szSpace_b _ _ _ _ _ _ hn (by omega) (by omega) (szL_pos h1)).mono ?_
  rintro e1 w1 ⟨rfl, hb1⟩
  have hB1 := hB0.trans (hb1.mono (by simp))
  have k1 := k0.below hb1 k0.lt
  have q2 := k1.cell 2
  go_wp2_with fail
  refine (szInt64S_b _ _ _ _ _ hm (by omega) (by omega) (szL_pos h2)).mono ?_
  rintro e1 w2 ⟨rfl, rfl⟩
  have q3 := k1.cell 3
  have q4 := k1.cell 4
  go_wp2_with fail
  refine (szDoubling_b _ _ _ _ _ _ hk (by omega) (by omega) (szL_neg h3)).mono ?_
  rintro e1 w3 ⟨rfl, hb3⟩
  have hB3 := hB1.trans (hb3.mono hB1.size)
  have k3 := k1.below hb3 k1.lt
  go_wp2
  go_ret
  exact ⟨rfl, hB3⟩

set_option maxHeartbeats 1000000 in
theorem szDesk_no4 (P Q : Int) (A B C D : Option Addr) (n m k l c d e f : Nat) (w : World) (hn : n ≤ 9223372036854775807) (hm : m ≤ 9223372036854775807) (hk : k ≤ 9223372036854775807) (hl : l ≤ 9223372036854775807) (h1 : 0 ≤ (1048576 - (n : Int))) (h2 : 0 ≤ (1048576 - (n : Int) - m)) (h3 : 0 ≤ (1048576 - (n : Int) - m - k)) (h4 : (1048576 - (n : Int) - m - k - l) < 0) :
    Calls Try.prog 10 #[.agg #[.int .i64 P, .slice A n c, .slice B m d, .int .i64 Q, .slice C k e, .slice D l f], .int .i64 1048576] w fun e' w' => e' = .returned (.int .i64 (-1)) ∧ Below w.heap.size w w' := by
  have hB0 : Below w.heap.size w (w.alloc (.cells #[.int .i64 P, .slice A n c, .slice B m d, .int .i64 Q, .slice C k e, .slice D l f] 36)) := (Below.refl _ _).alloc (Nat.le_refl _) _
  have k0 : Blk (w.alloc (.cells #[.int .i64 P, .slice A n c, .slice B m d, .int .i64 Q, .slice C k e, .slice D l f] 36)) w.heap.size 36 #[.int .i64 P, .slice A n c, .slice B m d, .int .i64 Q, .slice C k e, .slice D l f] := Blk.new _ _ _
  have d1 : decide ((1048576 - (n : Int)) < 0) = false := by simpa using h1
  have d2 : decide ((1048576 - (n : Int) - m) < 0) = false := by simpa using h2
  have d3 : decide ((1048576 - (n : Int) - m - k) < 0) = false := by simpa using h3
  go_enter Try.func10, Try.ntmps10
  go_wp2_with fail
  refine (szSpace_b _ _ _ _ _ _ hn (by omega) (by omega) (szL_pos h1)).mono ?_
  rintro e1 w1 ⟨rfl, hb1⟩
  have hB1 := hB0.trans (hb1.mono (by simp))
  have k1 := k0.below hb1 k0.lt
  have q2 := k1.cell 2
  go_wp2_with fail
  refine (szInt64S_b _ _ _ _ _ hm (by omega) (by omega) (szL_pos h2)).mono ?_
  rintro e1 w2 ⟨rfl, rfl⟩
  have q3 := k1.cell 3
  have q4 := k1.cell 4
  go_wp2_with fail
  refine (szDoubling_b _ _ _ _ _ _ hk (by omega) (by omega) (szL_pos h3)).mono ?_
  rintro e1 w3 ⟨rfl, hb3⟩
  have hB3 := hB1.trans (hb3.mono hB1.size)
  have k3 := k1.below hb3 k1.lt
  have q5 := k3.cell 5
  go_wp2_with fail
  refine (szInt64S_b _ _ _ _ _ hl (by omega) (by omega) (szL_neg h4)).mono ?_
  rintro e1 w4 ⟨rfl, rfl⟩
  go_wp2
  go_ret
  exact ⟨rfl, hB3⟩

set_option maxHeartbeats 1000000 in
theorem szDesk_ok (P Q : Int) (A B C D : Option Addr) (n m k l c d e f : Nat) (w : World) (hn : n ≤ 9223372036854775807) (hm : m ≤ 9223372036854775807) (hk : k ≤ 9223372036854775807) (hl : l ≤ 9223372036854775807) (h1 : 0 ≤ (1048576 - (n : Int))) (h2 : 0 ≤ (1048576 - (n : Int) - m)) (h3 : 0 ≤ (1048576 - (n : Int) - m - k)) (h4 : 0 ≤ (1048576 - (n : Int) - m - k - l)) :
    Calls Try.prog 10 #[.agg #[.int .i64 P, .slice A n c, .slice B m d, .int .i64 Q, .slice C k e, .slice D l f], .int .i64 1048576] w fun e' w' => e' = .returned (.int .i64 (1048576 - (n : Int) - m - k - l)) ∧ Below w.heap.size w w' := by
  have hB0 : Below w.heap.size w (w.alloc (.cells #[.int .i64 P, .slice A n c, .slice B m d, .int .i64 Q, .slice C k e, .slice D l f] 36)) := (Below.refl _ _).alloc (Nat.le_refl _) _
  have k0 : Blk (w.alloc (.cells #[.int .i64 P, .slice A n c, .slice B m d, .int .i64 Q, .slice C k e, .slice D l f] 36)) w.heap.size 36 #[.int .i64 P, .slice A n c, .slice B m d, .int .i64 Q, .slice C k e, .slice D l f] := Blk.new _ _ _
  have d1 : decide ((1048576 - (n : Int)) < 0) = false := by simpa using h1
  have d2 : decide ((1048576 - (n : Int) - m) < 0) = false := by simpa using h2
  have d3 : decide ((1048576 - (n : Int) - m - k) < 0) = false := by simpa using h3
  have d4 : decide ((1048576 - (n : Int) - m - k - l) < 0) = false := by simpa using h4
  go_enter Try.func10, Try.ntmps10
  go_wp2_with fail
  refine (szSpace_b _ _ _ _ _ _ hn (by omega) (by omega) (szL_pos h1)).mono ?_
  rintro e1 w1 ⟨rfl, hb1⟩
  have hB1 := hB0.trans (hb1.mono (by simp))
  have k1 := k0.below hb1 k0.lt
  have q2 := k1.cell 2
  go_wp2_with fail
  refine (szInt64S_b _ _ _ _ _ hm (by omega) (by omega) (szL_pos h2)).mono ?_
  rintro e1 w2 ⟨rfl, rfl⟩
  have q3 := k1.cell 3
  have q4 := k1.cell 4
  go_wp2_with fail
  refine (szDoubling_b _ _ _ _ _ _ hk (by omega) (by omega) (szL_pos h3)).mono ?_
  rintro e1 w3 ⟨rfl, hb3⟩
  have hB3 := hB1.trans (hb3.mono hB1.size)
  have k3 := k1.below hb3 k1.lt
  have q5 := k3.cell 5
  go_wp2_with fail
  refine (szInt64S_b _ _ _ _ _ hl (by omega) (by omega) (szL_pos h4)).mono ?_
  rintro e1 w4 ⟨rfl, rfl⟩
  go_wp2
  go_ret
  exact ⟨rfl, hB3⟩

set_option maxHeartbeats 2000000 in
theorem toDesk_any (P Q : Int) (A B C D : Option Addr) (n m k l c d e f : Nat) (xs ys zs us : List Int) (w : World) (hn : n ≤ 1048576) (hm : m ≤ 1048576) (hk : k ≤ 1048576) (hl : l ≤ 1048576)
    (ha : Rd w A n (ints xs)) (hb : Rd w B m (ints ys)) (hc : Rd w C k (ints zs)) (hd : Rd w D l (ints us)) :
    Calls Try.prog 12 #[.agg #[.int .i64 P, .slice A n c, .slice B m d, .int .i64 Q, .slice C k e, .slice D l f]] w fun e' w' => ∃ (A' B' C' D' : Option Addr) (c' d' f' g' : Nat), e' = .returned (.agg #[.int .i64 P, .slice A' n c', .slice B' m d', .int .i64 Q, .slice C' k f', .slice D' l g']) ∧
      MkI w w' A' n c' xs ∧ MkI w w' B' m d' ys ∧ MkI w w' C' k f' zs ∧ MkI w w' D' l g' us ∧
      Apart (.slice A' n c') (.slice B' m d') ∧ Apart (.slice A' n c') (.slice C' k f') ∧ Apart (.slice A' n c') (.slice D' l g') ∧ Apart (.slice B' m d') (.slice C' k f') ∧ Apart (.slice B' m d') (.slice D' l g') ∧ Apart (.slice C' k f') (.slice D' l g') := by
  have hB0 : Below w.heap.size w (((w.alloc (.cells #[.int .i64 P, .slice A n c, .slice B m d, .int .i64 Q, .slice C k e, .slice D l f] 36)).alloc (.cells #[.int .i64 0, .slice none 0 0, .slice none 0 0, .int .i64 0, .slice none 0 0, .slice none 0 0] 28)).alloc (.cells #[.int .i64 0, .slice none 0 0, .slice none 0 0, .int .i64 0, .slice none 0 0, .slice none 0 0] 28)) := (((Below.refl _ _).alloc (Nat.le_refl _) _).alloc (by simp) _).alloc (by simp; omega) _
  have k0 : Blk (((w.alloc (.cells #[.int .i64 P, .slice A n c, .slice B m d, .int .i64 Q, .slice C k e, .slice D l f] 36)).alloc (.cells #[.int .i64 0, .slice none 0 0, .slice none 0 0, .int .i64 0, .slice none 0 0, .slice none 0 0] 28)).alloc (.cells #[.int .i64 0, .slice none 0 0, .slice none 0 0, .int .i64 0, .slice none 0 0, .slice none 0 0] 28)) w.heap.size 36 #[.int .i64 P, .slice A n c, .slice B m d, .int .i64 Q, .slice C k e, .slice D l f] := ((Blk.new _ _ _).alloc _).alloc _
  have j0 : Blk (((w.alloc (.cells #[.int .i64 P, .slice A n c, .slice B m d, .int .i64 Q, .slice C k e, .slice D l f] 36)).alloc (.cells #[.int .i64 0, .slice none 0 0, .slice none 0 0, .int .i64 0, .slice none 0 0, .slice none 0 0] 28)).alloc (.cells #[.int .i64 0, .slice none 0 0, .slice none 0 0, .int .i64 0, .slice none 0 0, .slice none 0 0] 28)) (w.heap.size + 1) 28 #[.int .i64 0, .slice none 0 0, .slice none 0 0, .int .i64 0, .slice none 0 0, .slice none 0 0] := by have := (Blk.new (w.alloc (.cells #[.int .i64 P, .slice A n c, .slice B m d, .int .i64 Q, .slice C k e, .slice D l f] 36)) 28 #[.int .i64 0, .slice none 0 0, .slice none 0 0, .int .i64 0, .slice none 0 0, .slice none 0 0]).alloc (.cells #[.int .i64 0, .slice none 0 0, .slice none 0 0, .int .i64 0, .slice none 0 0, .slice none 0 0] 28); simpa only [World.size_alloc] using this
  have o0 : Blk (((w.alloc (.cells #[.int .i64 P, .slice A n c, .slice B m d, .int .i64 Q, .slice C k e, .slice D l f] 36)).alloc (.cells #[.int .i64 0, .slice none 0 0, .slice none 0 0, .int .i64 0, .slice none 0 0, .slice none 0 0] 28)).alloc (.cells #[.int .i64 0, .slice none 0 0, .slice none 0 0, .int .i64 0, .slice none 0 0, .slice none 0 0] 28)) (w.heap.size + 1 + 1) 28 #[.int .i64 0, .slice none 0 0, .slice none 0 0, .int .i64 0, .slice none 0 0, .slice none 0 0] := by have := Blk.new ((w.alloc (.cells #[.int .i64 P, .slice A n c, .slice B m d, .int .i64 Q, .slice C k e, .slice D l f] 36)).alloc (.cells #[.int .i64 0, .slice none 0 0, .slice none 0 0, .int .i64 0, .slice none 0 0, .slice none 0 0] 28)) 28 #[.int .i64 0, .slice none 0 0, .slice none 0 0, .int .i64 0, .slice none 0 0, .slice none 0 0]; simpa only [World.size_alloc] using this
  have hs0 : (((w.alloc (.cells #[.int .i64 P, .slice A n c, .slice B m d, .int .i64 Q, .slice C k e, .slice D l f] 36)).alloc (.cells #[.int .i64 0, .slice none 0 0, .slice none 0 0, .int .i64 0, .slice none 0 0, .slice none 0 0] 28)).alloc (.cells #[.int .i64 0, .slice none 0 0, .slice none 0 0, .int .i64 0, .slice none 0 0, .slice none 0 0] 28)).heap.size = w.heap.size + 3 := by simp
  have Hs0 := Lib.hid hs0; clear hs0
  go_enter Try.func12, Try.ntmps12
  go_wp2_with fail
  refine (toSpace_any _ _ _ _ _ _ (by omega) (ha.below hB0)).mono ?_
  rintro e1 w1 ⟨A', c', rfl, m1⟩
  -- the space is stored
  have k1 := k0.below m1.b k0.lt
  have j1 := j0.below m1.b j0.lt
  have o1 := o0.below m1.b o0.lt
  have hB1 := hB0.trans (m1.b.mono (by have := Hs0.out; omega))
  have r1 : Own w1 (w.heap.size + 3) 2 A' n c' (ints xs) := m1.2.base (by have := Hs0.out; omega)
  clear k0 j0 o0 m1 hB0
  have q0 := o1.cell 0
  have q1 := o1.cell 1
  have f0 := o1.frozen 0
  have f1 := o1.frozen 1
  have q2 := k1.cell 2
  go_wp2_with fail
  clear q0 q1 q2 f0 f1
  have k2 := (k1.far (p := ⟨w.heap.size + 1 + 1, 0, none⟩) (by simp; omega) (.int .i64 P)).far (p := ⟨w.heap.size + 1 + 1, 1, none⟩) (by simp; omega) (.slice A' n c')
  have j2 := (j1.far (p := ⟨w.heap.size + 1 + 1, 0, none⟩) (by simp) (.int .i64 P)).far (p := ⟨w.heap.size + 1 + 1, 1, none⟩) (by simp) (.slice A' n c')
  have o2 := (o1.set_ 0 (.int .i64 P)).set_ 1 (.slice A' n c')
  have r2 := (r1.far o1 (by decide) 0 (.int .i64 P)).far (o1.set_ 0 (.int .i64 P)) (by decide) 1 (.slice A' n c')
  have hB2 := (hB1.setCell (p := ⟨w.heap.size + 1 + 1, 0, none⟩) (by simp; omega) (.int .i64 P)).setCell (p := ⟨w.heap.size + 1 + 1, 1, none⟩) (by simp; omega) (.slice A' n c')
  simp only [List.setIfInBounds_toArray, List.set_cons_zero, List.set_cons_succ] at o2
  clear k1 j1 o1 hB1 r1
  -- the multivector
  refine (toInt64S_any _ _ _ _ _ (by omega) (hb.below hB2)).mono ?_
  rintro e1 w2 ⟨B', d', rfl, m2⟩
  have k3 := k2.below m2.b k2.lt
  have j3 := j2.below m2.b j2.lt
  have o3 := o2.below m2.b o2.lt
  have hB3 := hB2.trans (m2.b.mono hB2.size)
  have r3 := r2.below m2.b
  have a1 := r2.apart m2.2
  have s3 : Own w2 (w.heap.size + 3) 2 B' m d' (ints ys) := m2.2.base (by have := o2.lt; omega)
  clear k2 j2 o2 m2 hB2 r2
  have q2 := o3.cell 2
  have f2 := o3.frozen 2
  have q3 := k3.cell 3
  have q4 := k3.cell 4
  go_wp2_with fail
  clear q2 f2 q3 q4
  have k4 := k3.far (p := ⟨w.heap.size + 1 + 1, 2, none⟩) (by simp; omega) (.slice B' m d')
  have j4 := j3.far (p := ⟨w.heap.size + 1 + 1, 2, none⟩) (by simp) (.slice B' m d')
  have o4 := o3.set_ 2 (.slice B' m d')
  have r4 := r3.far o3 (by decide) 2 (.slice B' m d')
  have s4 := s3.far o3 (by decide) 2 (.slice B' m d')
  have hB4 := hB3.setCell (p := ⟨w.heap.size + 1 + 1, 2, none⟩) (by simp; omega) (.slice B' m d')
  simp only [List.setIfInBounds_toArray, List.set_cons_zero, List.set_cons_succ] at o4
  clear k3 j3 o3 hB3 r3 s3
  refine (toDoubling_any _ _ _ _ _ _ (by omega) (hc.below hB4)).mono ?_
  rintro e1 w3 ⟨C', f', rfl, m3⟩
  have k5 := k4.below m3.b k4.lt
  have j5 := j4.below m3.b j4.lt
  have o5 := o4.below m3.b o4.lt
  have hB5 := hB4.trans (m3.b.mono hB4.size)
  have r5 := r4.below m3.b
  have s5 := s4.below m3.b
  have a2 := r4.apart m3.2
  have a4 := s4.apart m3.2
  have t5 : Own w3 (w.heap.size + 3) 2 C' k f' (ints zs) := m3.2.base (by have := o4.lt; omega)
  clear k4 j4 o4 m3 hB4 r4 s4
  have q3 := o5.cell 3
  have q4 := o5.cell 4
  have f3 := o5.frozen 3
  have f4 := o5.frozen 4
  have q5 := k5.cell 5
  go_wp2_with fail
  clear q3 q4 f3 f4 q5
  have k6 := (k5.far (p := ⟨w.heap.size + 1 + 1, 3, none⟩) (by simp; omega) (.int .i64 Q)).far (p := ⟨w.heap.size + 1 + 1, 4, none⟩) (by simp; omega) (.slice C' k f')
  have j6 := (j5.far (p := ⟨w.heap.size + 1 + 1, 3, none⟩) (by simp) (.int .i64 Q)).far (p := ⟨w.heap.size + 1 + 1, 4, none⟩) (by simp) (.slice C' k f')
  have o6 := (o5.set_ 3 (.int .i64 Q)).set_ 4 (.slice C' k f')
  have r6 := (r5.far o5 (by decide) 3 (.int .i64 Q)).far (o5.set_ 3 (.int .i64 Q)) (by decide) 4 (.slice C' k f')
  have s6 := (s5.far o5 (by decide) 3 (.int .i64 Q)).far (o5.set_ 3 (.int .i64 Q)) (by decide) 4 (.slice C' k f')
  have t6 := (t5.far o5 (by decide) 3 (.int .i64 Q)).far (o5.set_ 3 (.int .i64 Q)) (by decide) 4 (.slice C' k f')
  have hB6 := (hB5.setCell (p := ⟨w.heap.size + 1 + 1, 3, none⟩) (by simp; omega) (.int .i64 Q)).setCell (p := ⟨w.heap.size + 1 + 1, 4, none⟩) (by simp; omega) (.slice C' k f')
  simp only [List.setIfInBounds_toArray, List.set_cons_zero, List.set_cons_succ] at o6
  clear k5 j5 o5 hB5 r5 s5 t5
  refine (toInt64S_any _ _ _ _ _ (by omega) (hd.below hB6)).mono ?_
  rintro e1 w4 ⟨D', g', rfl, m4⟩
  have j7 := j6.below m4.b j6.lt
  have o7 := o6.below m4.b o6.lt
  have hB7 := hB6.trans (m4.b.mono hB6.size)
  have r7 := r6.below m4.b
  have s7 := s6.below m4.b
  have t7 := t6.below m4.b
  have a3 := r6.apart m4.2
  have a5 := s6.apart m4.2
  have a6 := t6.apart m4.2
  have u7 : Own w4 (w.heap.size + 3) 2 D' l g' (ints us) := m4.2.base (by have := o6.lt; omega)
  clear k6 j6 o6 m4 hB6 r6 s6 t6
  -- the last part is stored, the whole is loaded and stored as the result
  have q5 := o7.cell 5
  have f5 := o7.frozen 5
  have o8 := o7.set_ 5 (.slice D' l g')
  simp only [List.setIfInBounds_toArray, List.set_cons_zero, List.set_cons_succ] at o8
  have j8 := j7.far (p := ⟨w.heap.size + 1 + 1, 5, none⟩) (by simp) (.slice D' l g')
  obtain ⟨p0, p1, p2, p3, p4, p5⟩ := o8.six
  have r8 := (r7.far o7 (by decide) 5 (.slice D' l g')).setCells (b := w.heap.size + 1) (by omega) [.int .i64 P, .slice A' n c', .slice B' m d', .int .i64 Q, .slice C' k f', .slice D' l g'] 0 _
  have s8 := (s7.far o7 (by decide) 5 (.slice D' l g')).setCells (b := w.heap.size + 1) (by omega) [.int .i64 P, .slice A' n c', .slice B' m d', .int .i64 Q, .slice C' k f', .slice D' l g'] 0 _
  have t8 := (t7.far o7 (by decide) 5 (.slice D' l g')).setCells (b := w.heap.size + 1) (by omega) [.int .i64 P, .slice A' n c', .slice B' m d', .int .i64 Q, .slice C' k f', .slice D' l g'] 0 _
  have u8 := (u7.far o7 (by decide) 5 (.slice D' l g')).setCells (b := w.heap.size + 1) (by omega) [.int .i64 P, .slice A' n c', .slice B' m d', .int .i64 Q, .slice C' k f', .slice D' l g'] 0 _
  have hB8 := below_setCells (B := w.heap.size) (b := w.heap.size + 1) (by omega) [.int .i64 P, .slice A' n c', .slice B' m d', .int .i64 Q, .slice C' k f', .slice D' l g'] 0 _ (hB7.setCell (p := ⟨w.heap.size + 1 + 1, 5, none⟩) (by simp; omega) (.slice D' l g'))
  have hL := j8.load_set (P := Try.prog) [.int .i64 P, .slice A' n c', .slice B' m d', .int .i64 Q, .slice C' k f', .slice D' l g'] rfl Try.underlying28 rfl (by kernel_rfl)
  clear r7 s7 t7 u7 hB7 o7
  have HL := Lib.hid hL; clear hL
  go_wp2_with (refine wpList_store_mid rfl 28 _ _ rfl (w.heap.size + 1) 0 #[.int .i64 P, .slice A' n c', .slice B' m d', .int .i64 Q, .slice C' k f', .slice D' l g'] rfl rfl j8.there (by kernel_rfl) (by simp [Value.oneCell']) ?_)
  exact bodyPost_ret (v := .agg #[.int .i64 P, .slice A' n c', .slice B' m d', .int .i64 Q, .slice C' k f', .slice D' l g']) (results_cell rfl _ _ rfl HL.out) rfl
    ⟨A', B', C', D', c', d', f', g', rfl, ⟨hB8, r8.base (by omega)⟩, ⟨hB8, s8.base (by omega)⟩, ⟨hB8, t8.base (by omega)⟩, ⟨hB8, u8.base (by omega)⟩, a1, a2, a3, a4, a5, a6⟩

end Go.Proofs.Ytnlfaaooocoicaa
