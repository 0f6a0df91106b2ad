/-
  The law's own helpers over desks: equality, marks.
-/
import Derived.Test.YtnlfaaooocoicaaStruct
namespace Go.Proofs.Ytnlfaaooocoicaa
open Go.RowKit

set_option maxHeartbeats 1000000 in
theorem eqDesk_yes (P Q : Int) (A A' B B' C C' D D' : Option Addr) (n m k l c c' d d' e e' f f' : Nat) (xs ys zs us : List Int) (w : World) (hn : n ≤ 1048576) (hm : m ≤ 1048576) (hk : k ≤ 1048576) (hl : l ≤ 1048576)
    (ha : Rd w A n (ints xs)) (ha' : Rd w A' n (ints xs)) (hb : Rd w B m (ints ys)) (hb' : Rd w B' m (ints ys)) (hc : Rd w C k (ints zs)) (hc' : Rd w C' k (ints zs)) (hd : Rd w D l (ints us)) (hd' : Rd w D' l (ints us)) :
    Calls Try.prog 7 #[.agg #[.int .i64 P, .slice A n c, .slice B m d, .int .i64 Q, .slice C k e, .slice D l f], .agg #[.int .i64 P, .slice A' n c', .slice B' m d', .int .i64 Q, .slice C' k e', .slice D' l f']] w fun e w' => e = .returned (.bool true) ∧ Below w.heap.size w w' := by
  have hB0 : Below w.heap.size w ((w.alloc (.cells #[.int .i64 P, .slice A n c, .slice B m d, .int .i64 Q, .slice C k e, .slice D l f] 28)).alloc (.cells #[.int .i64 P, .slice A' n c', .slice B' m d', .int .i64 Q, .slice C' k e', .slice D' l f'] 28)) := ((Below.refl _ _).alloc (Nat.le_refl _) _).alloc (by simp) _
  have k0 : Blk ((w.alloc (.cells #[.int .i64 P, .slice A n c, .slice B m d, .int .i64 Q, .slice C k e, .slice D l f] 28)).alloc (.cells #[.int .i64 P, .slice A' n c', .slice B' m d', .int .i64 Q, .slice C' k e', .slice D' l f'] 28)) w.heap.size 28 #[.int .i64 P, .slice A n c, .slice B m d, .int .i64 Q, .slice C k e, .slice D l f] := (Blk.new _ _ _).alloc _
  have k1 : Blk ((w.alloc (.cells #[.int .i64 P, .slice A n c, .slice B m d, .int .i64 Q, .slice C k e, .slice D l f] 28)).alloc (.cells #[.int .i64 P, .slice A' n c', .slice B' m d', .int .i64 Q, .slice C' k e', .slice D' l f'] 28)) (w.heap.size + 1) 28 #[.int .i64 P, .slice A' n c', .slice B' m d', .int .i64 Q, .slice C' k e', .slice D' l f'] := by have := Blk.new (w.alloc (.cells #[.int .i64 P, .slice A n c, .slice B m d, .int .i64 Q, .slice C k e, .slice D l f] 28)) 28 #[.int .i64 P, .slice A' n c', .slice B' m d', .int .i64 Q, .slice C' k e', .slice D' l f']; rwa [World.size_alloc] at this
  go_enter Try.func7, Try.ntmps7
  go_wp2_with fail
  refine (eqSpace_any _ _ _ _ _ _ _ _ _ _ _ (by omega) (by omega) (ha.below hB0) (ha'.below hB0)).mono ?_
  rintro e1 w1 ⟨rfl, hb1⟩
  simp only [decide_true, and_self]
  have hB1 := hB0.trans (hb1.mono (by simp; omega))
  have k2 := k0.below hb1 k0.lt
  have k3 := k1.below hb1 k1.lt
  clear k0 k1 hb1 hB0
  have q1 := k2.cell 2
  have q2 := k3.cell 2
  go_wp2_with fail
  refine (eqInt64S_any _ _ _ _ _ _ _ _ _ (by omega) (by omega) (hb.below hB1) (hb'.below hB1)).mono ?_
  rintro e1 w2 ⟨rfl, j, rfl⟩
  simp only [decide_true]
  clear q1 q2
  have q1 := k2.cell 3
  have q2 := k3.cell 3
  have q3 := k2.cell 4
  have q4 := k3.cell 4
  go_wp2_with fail
  have hB2 := below_drewN hB1 j
  refine (eqDoubling_any _ _ _ _ _ _ _ _ _ _ _ (by omega) (by omega) (hc.below hB2) (hc'.below hB2)).mono ?_
  rintro e1 w3 ⟨rfl, hb3⟩
  simp only [decide_true, and_self]
  have hB3 := hB2.trans (hb3.mono hB1.size)
  have k4 := Blk.below (w := w1.drewN j) k2 hb3 k2.lt
  have k5 := Blk.below (w := w1.drewN j) k3 hb3 k3.lt
  clear k2 k3 hb3 hB1 hB2 q1 q2 q3 q4
  have q1 := k4.cell 5
  have q2 := k5.cell 5
  go_wp2_with fail
  refine (eqInt64S_any _ _ _ _ _ _ _ _ _ (by omega) (by omega) (hd.below hB3) (hd'.below hB3)).mono ?_
  rintro e1 w4 ⟨rfl, j2, rfl⟩
  simp only [decide_true]
  go_wp2
  go_ret
  exact ⟨rfl, below_drewN hB3 j2⟩

set_option maxHeartbeats 1000000 in
theorem markDesk_any (b : Nat) (P Q : Int) (A B C D : Option Addr) (n m k l c d e f : Nat) (xs ys zs us : List Int) (j : Int) (w : World) (hn : n ≤ 1048576) (hm : m ≤ 1048576) (hk : k ≤ 1048576) (hl : l ≤ 1048576) (hj0 : 0 ≤ j) (hj : j ≤ 1048576) (hbw : b ≤ w.heap.size)
    (ha : Own w b 2 A n c (ints xs)) (hb : Own w b 2 B m d (ints ys)) (hc : Own w b 2 C k e (ints zs)) (hd : Own w b 2 D l f (ints us))
    (a1 : Apart (.slice A n c) (.slice B m d)) (a2 : Apart (.slice A n c) (.slice C k e)) (a3 : Apart (.slice A n c) (.slice D l f)) (a4 : Apart (.slice B m d) (.slice C k e)) (a5 : Apart (.slice B m d) (.slice D l f)) (a6 : Apart (.slice C k e) (.slice D l f)) :
    Calls Try.prog 8 #[.agg #[.int .i64 P, .slice A n c, .slice B m d, .int .i64 Q, .slice C k e, .slice D l f], .int .i64 j] w fun e' w' => e' = .returned (.int .i64 (j + n + m + k + l)) ∧ Below b w w' ∧ (∀ g t cs, 2 ≠ t → Blk w g t cs → Blk w' g t cs) ∧
      Own w' b 2 A n c (ints (marks j n)) ∧ Own w' b 2 B m d (ints (marks (j + n) m)) ∧ Own w' b 2 C k e (ints (marks (j + n + m) k)) ∧ Own w' b 2 D l f (ints (marks (j + n + m + k) l)) := by
  have hB0 : Below b w (w.alloc (.cells #[.int .i64 P, .slice A n c, .slice B m d, .int .i64 Q, .slice C k e, .slice D l f] 28)) := (Below.refl _ _).alloc hbw _
  have hBw : Below w.heap.size w (w.alloc (.cells #[.int .i64 P, .slice A n c, .slice B m d, .int .i64 Q, .slice C k e, .slice D l f] 28)) := (Below.refl _ _).alloc (Nat.le_refl _) _
  have k0 : Blk (w.alloc (.cells #[.int .i64 P, .slice A n c, .slice B m d, .int .i64 Q, .slice C k e, .slice D l f] 28)) w.heap.size 28 #[.int .i64 P, .slice A n c, .slice B m d, .int .i64 Q, .slice C k e, .slice D l f] := Blk.new _ _ _
  go_enter Try.func8, Try.ntmps8
  go_wp2_with fail
  refine (markSpace_any b _ _ _ _ _ _ _ (by omega) hj0 (by omega) (ha.below hBw)).mono ?_
  rintro e1 w1 ⟨rfl, oa, g1⟩
  have k1 := k0.grown g1 ((ha.below hBw).ne_blk k0 (by decide))
  have ob := (hb.below hBw).grown g1 a1.row
  have oc := (hc.below hBw).grown g1 a2.row
  have od := (hd.below hBw).grown g1 a3.row
  have hB1 := (ha.below hBw).grown_below g1 hB0 (by simp; omega)
  have K1 : ∀ g t cs, 2 ≠ t → Blk w g t cs → Blk w1 g t cs := fun g t cs ht k => (k.alloc _).grown g1 ((ha.below hBw).ne_blk (k.alloc _) ht)
  clear k0 g1 hB0 hBw ha hb hc hd
  have q1 := k1.cell 2
  go_wp2_with fail
  refine (markInt64S_any b _ _ _ _ _ _ (by omega) (by omega) (by omega) ob).mono ?_
  rintro e1 w2 ⟨rfl, ob2, g2⟩
  have k2 := k1.grown g2 (ob.ne_blk k1 (by decide))
  have oa2 := oa.grown g2 a1.symm.row
  have oc2 := oc.grown g2 a4.row
  have od2 := od.grown g2 a5.row
  have hB2 := ob.grown_below g2 hB1 (by have := hB1.size; omega)
  have K2 : ∀ g t cs, 2 ≠ t → Blk w g t cs → Blk w2 g t cs := fun g t cs ht k => (K1 g t cs ht k).grown g2 (ob.ne_blk (K1 g t cs ht k) ht)
  clear K1 k1 g2 hB1 oa ob oc od q1
  have q1 := k2.cell 3
  have q2 := k2.cell 4
  go_wp2_with fail
  refine (markDoubling_any b _ _ _ _ _ _ _ (by omega) (by omega) (by omega) oc2).mono ?_
  rintro e1 w3 ⟨rfl, oc3, g3⟩
  have k3 := k2.grown g3 (oc2.ne_blk k2 (by decide))
  have oa3 := oa2.grown g3 a2.symm.row
  have ob3 := ob2.grown g3 a4.symm.row
  have od3 := od2.grown g3 a6.row
  have hB3 := oc2.grown_below g3 hB2 (by have := hB2.size; omega)
  have K3 : ∀ g t cs, 2 ≠ t → Blk w g t cs → Blk w3 g t cs := fun g t cs ht k => (K2 g t cs ht k).grown g3 (oc2.ne_blk (K2 g t cs ht k) ht)
  clear K2 k2 g3 hB2 oa2 ob2 oc2 od2 q1 q2
  have q1 := k3.cell 5
  go_wp2_with fail
  refine (markInt64S_any b _ _ _ _ _ _ (by omega) (by omega) (by omega) od3).mono ?_
  rintro e1 w4 ⟨rfl, od4, g4⟩
  have oa4 := oa3.grown g4 a3.symm.row
  have ob4 := ob3.grown g4 a5.symm.row
  have oc4 := oc3.grown g4 a6.symm.row
  have hB4 := od3.grown_below g4 hB3 (by have := hB3.size; omega)
  have K4 : ∀ g t cs, 2 ≠ t → Blk w g t cs → Blk w4 g t cs := fun g t cs ht k => (K3 g t cs ht k).grown g4 (od3.ne_blk (K3 g t cs ht k) ht)
  clear K3 k3 g4 hB3 oa3 ob3 oc3 od3 q1
  go_wp2
  go_ret
  exact ⟨rfl, hB4, K4, oa4, ob4, oc4, od4⟩

set_option maxHeartbeats 1000000 in
theorem heldDesk_any (P Q : Int) (A B C D : Option Addr) (n m k l c d e f : Nat) (j : Int) (w : World) (hn : n ≤ 1048576) (hm : m ≤ 1048576) (hk : k ≤ 1048576) (hl : l ≤ 1048576) (hj0 : 0 ≤ j) (hj : j ≤ 1048576)
    (ha : Rd w A n (ints (marks j n))) (hb : Rd w B m (ints (marks (j + n) m))) (hc : Rd w C k (ints (marks (j + n + m) k))) (hd : Rd w D l (ints (marks (j + n + m + k) l))) :
    Calls Try.prog 9 #[.agg #[.int .i64 P, .slice A n c, .slice B m d, .int .i64 Q, .slice C k e, .slice D l f], .int .i64 j] w fun e' w' => e' = .returned (.int .i64 (j + n + m + k + l)) ∧ Below w.heap.size w w' := by
  have hB0 : Below w.heap.size w (w.alloc (.cells #[.int .i64 P, .slice A n c, .slice B m d, .int .i64 Q, .slice C k e, .slice D l f] 28)) := (Below.refl _ _).alloc (Nat.le_refl _) _
  have k0 : Blk (w.alloc (.cells #[.int .i64 P, .slice A n c, .slice B m d, .int .i64 Q, .slice C k e, .slice D l f] 28)) w.heap.size 28 #[.int .i64 P, .slice A n c, .slice B m d, .int .i64 Q, .slice C k e, .slice D l f] := Blk.new _ _ _
  have h1 : decide (j + (n : Int) < 0) = false := by simp; omega
  have h2 : decide (j + (n : Int) + m < 0) = false := by simp; omega
  have h3 : decide (j + (n : Int) + m + k < 0) = false := by simp; omega
  have h4 : decide (j + (n : Int) + m + k + l < 0) = false := by simp; omega
  go_enter Try.func9, Try.ntmps9
  go_wp2_with fail
  refine (heldSpace_any _ _ _ _ _ _ (by omega) hj0 (by omega) (ha.below hB0)).mono ?_
  rintro e1 w1 ⟨rfl, hb1⟩
  have hB1 := hB0.trans (hb1.mono (by simp))
  have k1 := k0.below hb1 k0.lt
  clear k0 hb1 hB0
  have q1 := k1.cell 2
  go_wp2_with fail
  refine (heldInt64S_any _ _ _ _ _ (by omega) (by omega) (by omega) (hb.below hB1)).mono ?_
  rintro e1 w2 ⟨rfl, rfl⟩
  clear q1
  have q1 := k1.cell 3
  have q2 := k1.cell 4
  go_wp2_with fail
  refine (heldDoubling_any _ _ _ _ _ _ (by omega) (by omega) (by omega) (hc.below hB1)).mono ?_
  rintro e1 w3 ⟨rfl, hb3⟩
  have hB3 := hB1.trans (hb3.mono hB1.size)
  have k3 := k1.below hb3 k1.lt
  clear k1 hb3 hB1 q1 q2
  have q1 := k3.cell 5
  go_wp2_with fail
  refine (heldInt64S_any _ _ _ _ _ (by omega) (by omega) (by omega) (hd.below hB3)).mono ?_
  rintro e1 w4 ⟨rfl, rfl⟩
  go_wp2
  go_ret
  exact ⟨rfl, hB3⟩

end Go.Proofs.Ytnlfaaooocoicaa
