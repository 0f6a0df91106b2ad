/-
  The law's own helpers over a struct of a number and a list of numbers: equality, copies, marks, sizes.
-/
import Derived.Test.YtommppijnccomaaGreatHelp
namespace Go.Proofs.YtommppijnccomaaGreat
open Go.RowKit

set_option maxHeartbeats 400000 in
theorem eqSpace_any (P P' : Int) (A B : Option Addr) (n m c d : Nat) (xs ys : List Int) (w : World) (hn : n ≤ 1099511627776) (hm : m ≤ 1099511627776)
    (ha : Rd w A n (ints xs)) (hb : Rd w B m (ints ys)) :
    Calls Tryz.prog 19 #[.agg #[.int .i64 P, .slice A n c], .agg #[.int .i64 P', .slice B m d]] w
      fun e w' => e = .returned (.bool (decide (P = P' ∧ xs = ys))) ∧ Below w.heap.size w w' := by
  by_cases hp : P = P'
  · subst hp
    have h0 : (P != P) = false := by simp
    cases hxy : decide (xs = ys)
    all_goals
      have H := Lib.hid hxy; clear hxy
      have hB : Below w.heap.size w ((w.alloc (.cells #[.int .i64 P, .slice A n c] 28)).alloc (.cells #[.int .i64 P, .slice B m d] 28)) := ((Below.refl _ _).alloc (Nat.le_refl _) _).alloc (by simp) _
      go_enter Tryz.func19, Tryz.ntmps19
      go_wp2_with (go_at_call 20; refine (eqInt64S_any _ _ _ _ _ _ _ _ _ hn hm (ha.below hB) (hb.below hB)).mono ?_; rintro e w' ⟨rfl, j, rfl⟩; rw [H.out])
      go_ret
      exact ⟨ret_bool (by have := H.out; simpa using this), below_drewN hB j⟩
  · have h0 : (P != P') = true := by simpa using hp
    go_enter Tryz.func19, Tryz.ntmps19
    go_wp2
    go_ret
    exact ⟨ret_bool (by simp [hp]), ((Below.refl _ _).alloc (Nat.le_refl _) _).alloc (by simp) _⟩

set_option maxHeartbeats 400000 in
theorem markSpace_any (B : Nat) (P : Int) (A : Option Addr) (n c : Nat) (xs : List Int) (k : Int) (w : World) (hn : n ≤ 1099511627776) (hk0 : 0 ≤ k) (hk : k ≤ 1099511627776) (ha : Own w B 2 A n c (ints xs)) :
    Calls Tryz.prog 30 #[.agg #[.int .i64 P, .slice A n c], .int .i64 k] w
      fun e w' => e = .returned (.int .i64 (k + n)) ∧ Own w' B 2 A n c (ints (marks k n)) ∧ w.grownBy w' (Value.slice A n c).ownBlock := by
  go_enter Tryz.func30, Tryz.ntmps30
  go_wp2_with (go_at_call 31; refine (markInt64S_any B _ _ _ _ _ _ hn hk0 hk (World.ownsRow.alloc ha _)).mono ?_; rintro e w' ⟨rfl, ho, hg⟩)
  go_ret
  exact ⟨rfl, ho, World.grownBy.trans (World.grownBy_alloc w _ _) hg⟩

set_option maxHeartbeats 400000 in
theorem szSpace_any (P : Int) (A : Option Addr) (n c : Nat) (left : Int) (w : World) (hn : n ≤ 9223372036854775807) (h0 : 0 ≤ left) (h1 : left ≤ 1048576) :
    Calls Tryz.prog 14 #[.agg #[.int .i64 P, .slice A n c], .int .i64 left] w fun e w' => e = .returned (.int .i64 (szL n left)) ∧ Below w.heap.size w w' := by
  by_cases h : left - n < 0
  · have hs : szL n left = -1 := by unfold szL; rw [if_pos h]
    have H := Lib.hid hs; clear hs
    go_enter Tryz.func14, Tryz.ntmps14
    go_wp2_with (go_at_call 47; refine (szInt64S_any _ _ _ _ _ hn h0 h1).mono ?_; rintro e w' ⟨rfl, rfl⟩; rw [H.out])
    go_ret
    exact ⟨ret_int H.out.symm, (Below.refl _ _).alloc (Nat.le_refl _) _⟩
  · have hs : szL n left = left - n := by unfold szL; rw [if_neg h]
    have H := Lib.hid hs; clear hs
    have h2 : decide (left - (n : Int) < 0) = false := by simpa using h
    go_enter Tryz.func14, Tryz.ntmps14
    go_wp2_with (go_at_call 47; refine (szInt64S_any _ _ _ _ _ hn h0 h1).mono ?_; rintro e w' ⟨rfl, rfl⟩; rw [H.out])
    go_ret
    exact ⟨ret_int H.out.symm, (Below.refl _ _).alloc (Nat.le_refl _) _⟩

set_option maxHeartbeats 400000 in
theorem toSpace_any (P : Int) (A : Option Addr) (n c : Nat) (xs : List Int) (w : World) (hn : n ≤ 1099511627776) (ha : Rd w A n (ints xs)) :
    Calls Tryz.prog 16 #[.agg #[.int .i64 P, .slice A n c]] w fun e w' => ∃ A' c', e = .returned (.agg #[.int .i64 P, .slice A' n c']) ∧ MkI w w' A' n c' xs := by
  go_enter Tryz.func16, Tryz.ntmps16
  go_wp2_with fail
  have hB3 : Below w.heap.size w (((w.alloc (.cells #[.int .i64 P, .slice A n c] 24)).alloc (.cells #[.int .i64 0, .slice none 0 0] 28)).alloc (.cells #[.int .i64 P, .slice none 0 0] 28)) :=
    (((Below.refl _ _).alloc (Nat.le_refl _) _).alloc (by simp) _).alloc (by simp; omega) _
  refine (toInt64S_any _ _ _ _ _ hn (ha.below hB3)).mono ?_
  rintro e w1 ⟨A', c', rfl, hM⟩
  have hb := hM.1
  have q0 := hb.cell (p := ⟨w.heap.size + 1 + 1, 0, none⟩) (by simp)
  have q1 := hb.cell (p := ⟨w.heap.size + 1 + 1, 1, none⟩) (by simp)
  have q2 := hb.frozen (p := ⟨w.heap.size + 1 + 1, 1, none⟩) (by simp)
  have q3 := hb.cell (p := ⟨w.heap.size + 1, 0, none⟩) (by simp)
  have q4 := hb.cell (p := ⟨w.heap.size + 1, 1, none⟩) (by simp)
  have q5 := hb.frozen (p := ⟨w.heap.size + 1, 0, none⟩) (by simp)
  have q6 := hb.frozen (p := ⟨w.heap.size + 1, 1, none⟩) (by simp)
  have HB := Lib.hid (hB3.trans (hb.mono (by simp; omega)))
  have hO : Own w1 (w.heap.size + 3) 2 A' n c' (ints xs) := hM.2.base (by simp)
  have HO := Lib.hid hO
  clear hM hb hO
  go_wp2
  refine bodyPost_ret (v := .agg #[.int .i64 P, .slice A' n c']) (by simp [results, Tryz.results16, go_sem, q3, q4]) rfl ⟨A', c', rfl, ?_, ?_⟩
  · exact ((HB.out.setCell (by show _ ≤ _ + 1 + 1; omega) _).setCell (by show _ ≤ _ + 1; omega) _).setCell (by show _ ≤ _ + 1; omega) _
  · exact ((HO.out.setBelow (by show _ + 1 + 1 < _; omega) _).setBelow (by show _ + 1 < _; omega) _).setBelow (by show _ + 1 < _; omega) _ |>.base (by omega)

end Go.Proofs.YtommppijnccomaaGreat
