/-
  A list and a multiple of another one: the program's function and the reference's.
-/
import Derived.Test.YtgfgnpdnppggeaaGreatLin
import Derived.Test.YtgfgnpdnppggeaaGreatProd
import Derived.Test.YtgfgnpdnppggeaaGreatTasks
namespace Go.Proofs.YtgfgnpdnppggeaaGreat
open Go.RowKit

theorem mul_range {x k : Int} (x1 : 0 ≤ x) (x2 : x ≤ 13) (k1 : -1000 ≤ k) (k2 : k ≤ 1000) : -13000 ≤ k * x ∧ k * x ≤ 13000 := by
  have h1 := Int.mul_le_mul_of_nonneg_right k2 x1
  have h2 := Int.mul_le_mul_of_nonneg_right k1 x1
  omega

set_option maxHeartbeats 800000 in
theorem plus_any (p : Int) (A : Option Addr) (n c : Nat) (B : Option Addr) (m d : Nat) (k : Int) (xs ys : List Int) (w : World) (hp : 2 ≤ p) (hp2 : p ≤ 13) (hn : n ≤ 65536) (hnm : n ≤ m) (ha : Rd w A n (ints xs)) (hx : NumsL p xs) (hb : Rd w B m (ints ys)) (hy : NumsL p ys) (hk1 : -1000 ≤ k) (hk2 : k ≤ 1000) :
    Calls Tryz.prog 156 #[.int .i64 p, .slice A n c, .slice B m d, .int .i64 k] w fun e w' => ∃ A' c', e = .returned (.slice A' n c') ∧ MkI w w' A' n c' (plusL p xs ys k) := by
  have hxl : xs.length = n := by have := ha.1; rwa [ints_length] at this
  have Hx := Lib.hid hxl; clear hxl
  have hM0 := Mk.lit (E := 2) (Below.refl w.heap.size w) #[] (by simp)
  go_enter Tryz.func156, Tryz.ntmps156
  go_wp2
  go_loopw [9, 10, 11, 15] (fun out _ _ i wr => ∃ (j : Nat) (A' : Option Addr) (c' : Nat), j ≤ n ∧ i = .int .i64 j ∧ out = .slice A' j c' ∧ MkI w wr A' j c' (tab j fun i => (xs.getD i 0 + k * ys.getD i 0) % p)) (fun _ _ _ i _ => n - (intOf i).toNat)
  case atStart => exact ⟨0, _, _, by omega, rfl, rfl, by simpa [MkI, ints, tab] using hM0⟩
  case round =>
    obtain ⟨j, A', c', hj, rfl, rfl, hM⟩ := hrel
    clear hM0
    by_cases hlt : j < n
    · obtain ⟨g, o, rfl, hxj, hcx⟩ := (ha.below hM.b).int hlt
      obtain ⟨g2, o2, rfl, hyj, hcy⟩ := (hb.below hM.b).int (show j < m by omega)
      obtain ⟨x1, x2⟩ := hx _ (List.getElem_mem hxj)
      obtain ⟨y1, y2⟩ := hy _ (List.getElem_mem hyj)
      obtain ⟨m1, m2⟩ := mul_range y1 (show ys[j] ≤ 13 by omega) hk1 hk2
      have HV : Hid ((tab (j + 1) fun i => (xs.getD i 0 + k * ys.getD i 0) % p) = (tab j fun i => (xs.getD i 0 + k * ys.getD i 0) % p) ++ [(xs[j] + k * ys[j]) % p]) := Lib.hid (by rw [tab_succ, getD_of_lt 0 hxj, getD_of_lt 0 hyj])
      have HM := Lib.hid hM
      clear ha hb hM
      go_wp2_with (first
        | (go_at_call 119; refine (num_any _ (xs[j] + k * ys[j]) _ (by omega) hp2 (by omega) (by omega)).mono ?_; rintro e w' ⟨rfl, rfl⟩)
        | (at_builtin; refine wpList_app1 w _ 22 2 _ _ Tryz.underlying22 info_i rfl (by omega) rfl _ _ rfl A' j c' _ _ HM.out (by omega) rfl rfl rfl ?_; intro A2 c2 w2 hM2 _ _))
      go_roundw
      case rel => exact ⟨j + 1, A2, c2, by omega, by go_num, rfl, by rw [HV.out]; simpa [MkI, ints] using hM2⟩
      case measure => simp [intOf]; omega
    · go_wp2
      go_ret
      obtain rfl : j = n := by omega
      exact ⟨_, _, rfl, by unfold plusL; rw [Hx.out]; exact hM⟩

end Go.Proofs.YtgfgnpdnppggeaaGreat
