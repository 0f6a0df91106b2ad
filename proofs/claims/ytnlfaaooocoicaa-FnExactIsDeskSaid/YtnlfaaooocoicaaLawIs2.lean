/-
  FnExactIsDesk: the walk. No condition.
-/
import Derived.Test.YtnlfaaooocoicaaLawIs
namespace Go.Proofs.Ytnlfaaooocoicaa
open Go.ChangeShapes Go.WideShapes Go.ChangeAt Go.RowKit

set_option maxHeartbeats 2000000 in
theorem isLaw_fits (P Q : Int) (A B C D : Option Addr) (n m k l c d e f : Nat) (xs ys zs us : List Int) (w : World) (h1 : 0 ≤ 1048576 - (n : Int)) (h2 : 0 ≤ 1048576 - (n : Int) - m) (h3 : 0 ≤ 1048576 - (n : Int) - m - k) (h4 : 0 ≤ 1048576 - (n : Int) - m - k - l)
    (ha : Rd w A n (ints xs)) (hb : Rd w B m (ints ys)) (hc : Rd w C k (ints zs)) (hd : Rd w D l (ints us)) :
    Calls Try.prog 4 #[.agg #[.int .i64 P, .slice A n c, .slice B m d, .int .i64 Q, .slice C k e, .slice D l f]] w fun e' w' => e' = .returned (.bool true) ∧ Below w.heap.size w w' := by
  have hn : n ≤ 1048576 := by omega
  have hm : m ≤ 1048576 := by omega
  have hk : k ≤ 1048576 := by omega
  have hl : l ≤ 1048576 := by omega
  have d4 : decide (1048576 - (n : Int) - m - k - l < 0) = false := by simpa using h4
  have hB0 : Below w.heap.size w (w.alloc (.cells #[.int .i64 P, .slice A n c, .slice B m d, .int .i64 Q, .slice C k e, .slice D l f] 36)) := (Below.refl _ _).alloc (Nat.le_refl _) _
  have k0 : Blk (w.alloc (.cells #[.int .i64 P, .slice A n c, .slice B m d, .int .i64 Q, .slice C k e, .slice D l f] 36)) w.heap.size 36 #[.int .i64 P, .slice A n c, .slice B m d, .int .i64 Q, .slice C k e, .slice D l f] := Blk.new _ _ _
  go_enter Try.func4, Try.ntmps4
  go_wp2_with fail
  refine (szDesk_ok _ _ _ _ _ _ _ _ _ _ _ _ _ _ _ (by omega) (by omega) (by omega) (by omega) h1 h2 h3 h4).mono ?_
  rintro e1 w1 ⟨rfl, hb1⟩
  have k1 := k0.below hb1 k0.lt
  have hB1 := hB0.trans (hb1.mono (by simp))
  clear k0 hb1 hB0
  obtain ⟨p0, p1, p2, p3, p4, p5⟩ := k1.six
  go_wp2_with fail
  refine (toDesk_any _ _ _ _ _ _ _ _ _ _ _ _ _ _ _ _ _ _ _ hn hm hk hl (ha.below hB1) (hb.below hB1) (hc.below hB1) (hd.below hB1)).mono ?_
  rintro e1 w2 ⟨A1', B1, C1, D1, c1, d1, f1, g1, rfl, m1, m2, m3, m4, -, -, -, -, -, -⟩
  have k2 := k1.below m1.b k1.lt
  have hB2 := hB1.trans (m1.b.mono hB1.size)
  clear p0 p1 p2 p3 p4 p5 k1 hB1
  obtain ⟨p0, p1, p2, p3, p4, p5⟩ := k2.six
  go_wp2_with fail
  refine (specIsDesk_any _ _ _ _ _ _ _ _ _ _ _ _ _ _ _ _ _ _ _ hn hm hk hl m1.rd m2.rd m3.rd m4.rd).mono ?_
  rintro e1 w2' ⟨rfl, hb2⟩
  have k2' := k2.below hb2 k2.lt
  have hB2' := hB2.trans (hb2.mono hB2.size)
  clear p0 p1 p2 p3 p4 p5 k2 hB2 m1 m2 m3 m4 hb2
  obtain ⟨p0, p1, p2, p3, p4, p5⟩ := k2'.six
  go_wp2_with fail
  refine (toDesk_any _ _ _ _ _ _ _ _ _ _ _ _ _ _ _ _ _ _ _ hn hm hk hl (ha.below hB2') (hb.below hB2') (hc.below hB2') (hd.below hB2')).mono ?_
  rintro e1 w3 ⟨A2, B2, C2, D2, c2, d2, f2, g2, rfl, m1, m2, m3, m4, -, -, -, -, -, -⟩
  have k3 := (k2'.below m1.b k2'.lt).alloc (.cells #[.int .i64 P, .slice A2 n c2, .slice B2 m d2, .int .i64 Q, .slice C2 k f2, .slice D2 l g2] 28)
  have j3 := Blk.new w3 28 #[.int .i64 P, .slice A2 n c2, .slice B2 m d2, .int .i64 Q, .slice C2 k f2, .slice D2 l g2]
  have hB3 := (hB2'.trans (m1.b.mono hB2'.size)).alloc (Nat.le_trans hB2'.size m1.b.size) (.cells #[.int .i64 P, .slice A2 n c2, .slice B2 m d2, .int .i64 Q, .slice C2 k f2, .slice D2 l g2] 28)
  have n1 := m1.alloc (.cells #[.int .i64 P, .slice A2 n c2, .slice B2 m d2, .int .i64 Q, .slice C2 k f2, .slice D2 l g2] 28)
  have n2 := m2.alloc (.cells #[.int .i64 P, .slice A2 n c2, .slice B2 m d2, .int .i64 Q, .slice C2 k f2, .slice D2 l g2] 28)
  have n3 := m3.alloc (.cells #[.int .i64 P, .slice A2 n c2, .slice B2 m d2, .int .i64 Q, .slice C2 k f2, .slice D2 l g2] 28)
  have n4 := m4.alloc (.cells #[.int .i64 P, .slice A2 n c2, .slice B2 m d2, .int .i64 Q, .slice C2 k f2, .slice D2 l g2] 28)
  clear p0 p1 p2 p3 p4 p5 k2' hB2' m1 m2 m3 m4
  go_wp2_with fail
  refine (impIsDesk_any _ _ _ _ _ _ _ _ _ _ _ _ _ _ _ _ _ _ _ hn hm hk hl n4.2.cap n1.rd n2.rd n3.rd n4.rd).mono ?_
  rintro e1 W4 ⟨rfl, hb4⟩
  have k4 := k3.below hb4 k3.lt
  have j4 := j3.below hb4 j3.lt
  have hB4 := hB3.trans (hb4.mono hB3.size)
  have r1 := n1.below hb4
  have r2 := n2.below hb4
  have r3 := n3.below hb4
  have r4 := n4.below hb4
  clear k3 j3 hB3 hb4 n1 n2 n3 n4
  go_wp2_with fail
  refine wp_region_held_drew (S := fun w' => Blk w' w.heap.size 36 #[.int .i64 P, .slice A n c, .slice B m d, .int .i64 Q, .slice C k e, .slice D l f] ∧ Blk w' w3.heap.size 28 #[.int .i64 P, .slice A2 n c2, .slice B2 m d2, .int .i64 Q, .slice C2 k f2, .slice D2 l g2] ∧ Below w.heap.size w w' ∧ Below W4.heap.size W4 w') (by kernel_rfl) (⟨k4, j4, hB4.drew, (Below.refl _ _).drew⟩) (fun hHeld => ?_)
  refine wpAnyH_take (i := 0) (v := .agg #[.int .i64 P, .slice A2 n c2, .slice B2 m d2, .int .i64 Q, .slice C2 k f2, .slice D2 l g2]) (Eq.trans (by simp only [List.getElem?_toArray, List.getElem?_cons_succ, List.getElem?_cons_zero]; exact rfl) rfl) (by kernel_rfl) (by kernel_rfl) (by kernel_rfl) (by exact fun _ _ _ h => h) (by exact yieldsIf_load_mid (by rfl) 28 _ rfl w3.heap.size 0 rfl [.int .i64 P, .slice A2 n c2, .slice B2 m d2, .int .i64 Q, .slice C2 k f2, .slice D2 l g2] _ (fun _ h => h.2.1.range) Try.underlying28 rfl (by kernel_rfl)) hHeld ?_
  try simp only [Act.put, List.setIfInBounds_toArray, List.set_cons_zero, List.set_cons_succ]
  refine wpAnyH_take (i := 1) (v := .agg #[.int .i64 P, .slice A n c, .slice B m d, .int .i64 Q, .slice C k e, .slice D l f]) (Eq.trans (by simp only [List.getElem?_toArray, List.getElem?_cons_succ, List.getElem?_cons_zero]; exact rfl) rfl) (by kernel_rfl) (by kernel_rfl) (by kernel_rfl) (by exact fun _ _ _ h => h) (by exact yieldsIf_load_mid (by rfl) 36 _ rfl w.heap.size 0 rfl [.int .i64 P, .slice A n c, .slice B m d, .int .i64 Q, .slice C k e, .slice D l f] _ (fun _ h => h.1.range) Try.underlying36 rfl (by kernel_rfl)) hHeld ?_
  try simp only [Act.put, List.setIfInBounds_toArray, List.set_cons_zero, List.set_cons_succ]
  refine wpAnyH_ready (rs := [2]) (by kernel_rfl) (by simp) (AllReadyH.cons (Eq.trans (by simp only [List.getElem?_toArray, List.getElem?_cons_succ, List.getElem?_cons_zero]; exact rfl) rfl) (fun K hK => ?_) AllReadyH.nil)
  go_simp
  refine (toDesk_any _ _ _ _ _ _ _ _ _ _ _ _ _ _ _ _ _ _ _ hn hm hk hl (ha.below hHeld.2.2.1) (hb.below hHeld.2.2.1) (hc.below hHeld.2.2.1) (hd.below hHeld.2.2.1)).mono ?_
  rintro e1 w5 ⟨A3, B3, C3, D3, c3, d3, f3, g3, rfl, m1, m2, m3, m4, -, -, -, -, -, -⟩
  refine hK.out _ _ (⟨hHeld.1.below m1.b hHeld.1.lt, hHeld.2.1.below m1.b hHeld.2.1.lt, hHeld.2.2.1.trans (m1.b.mono hHeld.2.2.1.size), hHeld.2.2.2.trans (m1.b.mono hHeld.2.2.2.size)⟩) (fun hHeld => ?_)
  clear hK K
  try simp only [Act.put, List.setIfInBounds_toArray, List.set_cons_zero, List.set_cons_succ]
  refine wpAnyH_ready (rs := [3]) (by kernel_rfl) (by simp) (AllReadyH.cons (Eq.trans (by simp only [List.getElem?_toArray, List.getElem?_cons_succ, List.getElem?_cons_zero]; exact rfl) rfl) (fun K hK => ?_) AllReadyH.nil)
  go_simp
  refine (eqDesk_yes _ _ _ _ _ _ _ _ _ _ _ _ _ _ _ _ _ _ _ _ _ _ _ _ _ _ _ hn hm hk hl (r1.rd.below hHeld.2.2.2) m1.rd (r2.rd.below hHeld.2.2.2) m2.rd (r3.rd.below hHeld.2.2.2) m3.rd (r4.rd.below hHeld.2.2.2) m4.rd).mono ?_
  rintro e1 w6 ⟨rfl, hb6⟩
  refine hK.out _ _ (⟨hHeld.1.below hb6 hHeld.1.lt, hHeld.2.1.below hb6 hHeld.2.1.lt, hHeld.2.2.1.trans (hb6.mono hHeld.2.2.1.size), hHeld.2.2.2.trans (hb6.mono hHeld.2.2.2.size)⟩) (fun hHeld => ?_)
  clear hK K
  try simp only [Act.put, List.setIfInBounds_toArray, List.set_cons_zero, List.set_cons_succ]
  refine wpAnyH_take (i := 4) (v := ?_) (Eq.trans (by simp only [List.getElem?_toArray, List.getElem?_cons_succ, List.getElem?_cons_zero]; exact rfl) rfl) (by kernel_rfl) (by kernel_rfl) (by kernel_rfl) (by exact fun _ _ _ h => h) (Or.inl ⟨by rfl, ?_⟩) hHeld ?_
  rotate_left
  · intro w hSw; (try dsimp only at hSw); go_simp; try with_reducible rfl
  try simp only [Act.put, List.setIfInBounds_toArray, List.set_cons_zero, List.set_cons_succ]
  refine wpAnyH_done (by kernel_rfl) ?_ _
  obtain ⟨_, _, hB7, _⟩ := hHeld
  go_wp2
  go_ret
  exact ⟨rfl, hB7⟩

end Go.Proofs.Ytnlfaaooocoicaa
