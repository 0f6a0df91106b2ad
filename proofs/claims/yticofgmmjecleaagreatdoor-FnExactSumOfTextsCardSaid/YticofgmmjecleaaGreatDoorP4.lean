/-
  LawSumOfTexts: part 4 of the texts that the proof needs. No condition.
-/
import Derived.Test.YticofgmmjecleaaGreatDoorP3
namespace Go.Proofs.YticofgmmjecleaaGreatDoor
open Go.RowKit
theorem mul_range {x k : Int} (x1 : 0 ≤ x) (x2 : x ≤ 13) (k1 : -1000 ≤ k) (k2 : k ≤ 1000) : -13000 ≤ k * x ∧ k * x ≤ 13000 := by
  have h1 := Int.mul_le_mul_of_nonneg_right k2 x1
  have h2 := Int.mul_le_mul_of_nonneg_right k1 x1
  omega
set_option maxHeartbeats 800000 in
set_option maxRecDepth 8000 in
theorem plus_any (p : Int) (A : Option Addr) (n c : Nat) (B : Option Addr) (m d : Nat) (k : Int) (xs ys : List Int) (w : World) (hp : 2 ≤ p) (hp2 : p ≤ 13) (hn : n ≤ 65536) (hnm : n ≤ m) (ha : Rd w A n (ints xs)) (hx : NumsL p xs) (hb : Rd w B m (ints ys)) (hy : NumsL p ys) (hk1 : -1000 ≤ k) (hk2 : k ≤ 1000) :
    Calls Tryz.prog 57 #[.int .i64 p, .slice A n c, .slice B m d, .int .i64 k] w fun e w' => ∃ A' c', e = .returned (.slice A' n c') ∧ MkI w w' A' n c' (plusL p xs ys k) := by
  have hxl : xs.length = n := by have := ha.1; rwa [ints_length] at this
  have Hx := Lib.hid hxl; clear hxl
  have hM0 := Mk.lit (E := 2) (Below.refl w.heap.size w) #[] (by simp)
  go_enter Tryz.func57, Tryz.ntmps57
  go_wp2
  go_loopw [9, 10, 11, 15] (fun out _ _ i wr => ∃ (j : Nat) (A' : Option Addr) (c' : Nat), j ≤ n ∧ i = .int .i64 j ∧ out = .slice A' j c' ∧ MkI w wr A' j c' (tab j fun i => (xs.getD i 0 + k * ys.getD i 0) % p)) (fun _ _ _ i _ => n - (intOf i).toNat)
  case atStart => exact ⟨0, _, _, by omega, rfl, rfl, by simpa [MkI, ints, tab] using hM0⟩
  case round =>
    obtain ⟨j, A', c', hj, rfl, rfl, hM⟩ := hrel
    clear hM0
    by_cases hlt : j < n
    · obtain ⟨g, o, rfl, hxj, hcx⟩ := (ha.below hM.b).int hlt
      obtain ⟨g2, o2, rfl, hyj, hcy⟩ := (hb.below hM.b).int (show j < m by omega)
      obtain ⟨x1, x2⟩ := hx _ (List.getElem_mem hxj)
      obtain ⟨y1, y2⟩ := hy _ (List.getElem_mem hyj)
      obtain ⟨m1, m2⟩ := mul_range y1 (show ys[j] ≤ 13 by omega) hk1 hk2
      have HV : Hid ((tab (j + 1) fun i => (xs.getD i 0 + k * ys.getD i 0) % p) = (tab j fun i => (xs.getD i 0 + k * ys.getD i 0) % p) ++ [(xs[j] + k * ys[j]) % p]) := Lib.hid (by rw [tab_succ, getD_of_lt 0 hxj, getD_of_lt 0 hyj])
      have HM := Lib.hid hM
      clear ha hb hM
      go_wp2_with (first
        | (go_at_call 94; refine (num_any _ (xs[j] + k * ys[j]) _ (by omega) hp2 (by omega) (by omega)).mono ?_; rintro e w' ⟨rfl, rfl⟩)
        | (at_builtin; refine wpList_app1 w _ 22 2 _ _ Tryz.underlying22 info_i rfl (by omega) rfl _ _ rfl A' j c' _ _ HM.out (by omega) rfl rfl rfl ?_; intro A2 c2 w2 hM2 _ _))
      go_roundw
      case rel => exact ⟨j + 1, A2, c2, by omega, by go_num, rfl, by rw [HV.out]; simpa [MkI, ints] using hM2⟩
      case measure => simp [intOf]; omega
    · go_wp2
      go_ret
      obtain rfl : j = n := by omega
      exact ⟨_, _, rfl, by unfold plusL; rw [Hx.out]; exact hM⟩
set_option maxHeartbeats 1600000 in
set_option maxRecDepth 8000 in
theorem l02Plus_any (p : Int) (A : Option Addr) (n c : Nat) (B : Option Addr) (m d : Nat) (k : Int) (xs ys : List Int) (w : World) (hp : 2 ≤ p) (hp2 : p ≤ 13) (hn : n ≤ 65536) (hnm : n ≤ m) (ha : Rd w A n (ints xs)) (hx : NumsL p xs) (hb : Rd w B m (ints ys)) (hy : NumsL p ys) (hk1 : 0 ≤ k) (hk2 : k ≤ 1000) :
    Calls Tryz.prog 52 #[.int .i64 p, .slice A n c, .slice B m d, .int .i64 k] w fun e w' => ∃ A' c', e = .returned (.slice A' n c') ∧ MkI w w' A' n c' (plusL p xs ys k) := by
  have hxl : xs.length = n := by have := ha.1; rwa [ints_length] at this
  have Hx := Lib.hid hxl; clear hxl
  have hM0 := Mk.lit (E := 2) (Below.refl w.heap.size w) #[] (by simp)
  go_enter Tryz.func52, Tryz.ntmps52
  go_wp2
  go_loopw [9, 10] (fun out i wr => ∃ (j : Nat) (A' : Option Addr) (c' : Nat), j ≤ n ∧ i = .int .i64 j ∧ out = .slice A' j c' ∧ MkI w wr A' j c' (tab j fun i => (xs.getD i 0 + k * ys.getD i 0) % p)) (fun _ i _ => n - (intOf i).toNat)
  case atStart => exact ⟨0, _, _, by omega, rfl, rfl, by simpa [MkI, ints, tab] using hM0⟩
  case round =>
    obtain ⟨j, A', c', hj, rfl, rfl, hM⟩ := hrel
    clear hM0
    by_cases hlt : j < n
    · obtain ⟨g, o, rfl, hxj, hcx⟩ := (ha.below hM.b).int hlt
      obtain ⟨g2, o2, rfl, hyj, hcy⟩ := (hb.below hM.b).int (show j < m by omega)
      obtain ⟨x1, x2⟩ := hx _ (List.getElem_mem hxj)
      obtain ⟨y1, y2⟩ := hy _ (List.getElem_mem hyj)
      obtain ⟨m1, m2⟩ := mul_small hk1 hk2 y1 (show ys[j] ≤ 13 by omega)
      have HV : Hid ((tab (j + 1) fun i => (xs.getD i 0 + k * ys.getD i 0) % p) = (tab j fun i => (xs.getD i 0 + k * ys.getD i 0) % p) ++ [(xs[j] + k * ys[j]) % p]) := Lib.hid (by rw [tab_succ, getD_of_lt 0 hxj, getD_of_lt 0 hyj])
      have W1 := i64_fit (k * ys[j]) (by omega) (by omega)
      have W2 := i64_fit (xs[j] + k * ys[j]) (by omega) (by omega)
      have W3 : (xs[j] + k * ys[j]).tmod p = (xs[j] + k * ys[j]) % p := Int.tmod_eq_emod_of_nonneg (by omega)
      have i1 : (0 : Int) ≤ (j : Int) := by omega
      have hP0 : ¬ p = 0 := by omega
      have i2 : (j : Int) < (n : Int) := by omega
      have i3 : (j : Int) < (m : Int) := by omega
      go_wp2
      refine wp_obs 15 [[], [], [], [1, 2], [1, 2, 3], [], [], [], [6, 7], [6, 7, 8], [5, 6, 7, 8, 9], [1, 2, 3, 4, 5, 6, 7, 8, 9, 10], [], [1, 2, 3, 4, 5, 6, 7, 8, 9, 10, 11, 12], [1, 2, 3, 4, 5, 6, 7, 8, 9, 10, 11, 12, 13], [0, 1, 2, 3, 4, 5, 6, 7, 8, 9, 10, 11, 12, 13, 14], [0, 1, 2, 3, 4, 5, 6, 7, 8, 9, 10, 11, 12, 13, 14, 15]] [VIs (.slice A' j c'), VIs (.slice (some ⟨g, o, none⟩) n c), VIs (.int .i64 (j)), VIs (.pointer (some ⟨g, o + j, none⟩)), VIs (.int .i64 (xs[j])), VIs (.int .i64 (k)), VIs (.slice (some ⟨g2, o2, none⟩) m d), VIs (.int .i64 (j)), VIs (.pointer (some ⟨g2, o2 + j, none⟩)), VIs (.int .i64 (ys[j])), VIs (.int .i64 (k * ys[j])), VIs (.int .i64 (xs[j] + k * ys[j])), VIs (.int .i64 (p)), VIs (.int .i64 ((xs[j] + k * ys[j]) % p)), VBs 2 #[.int .i64 ((xs[j] + k * ys[j]) % p)]] (fun w' => MkI w w' A' j c' (tab j fun i => (xs.getD i 0 + k * ys.getD i 0) % p) ∧ w'.cell? ⟨g, o + j, none⟩ = some (.int .i64 xs[j]) ∧ w'.cell? ⟨g2, o2 + j, none⟩ = some (.int .i64 ys[j])) (by kernel_rfl) (by kernel_rfl) (fun _ _ h hb => ⟨h.1.below hb, (hb.cell (World.block_lt_of_cell? _ _ h.2.1)).trans h.2.1, (hb.cell (World.block_lt_of_cell? _ _ h.2.2)).trans h.2.2⟩) (⟨hM.drew, hcx, hcy⟩) (fun x => ?_)
      refine obs_step (Eq.trans (by simp only [List.getElem?_toArray, List.getElem?_cons_zero]; exact rfl) rfl) rfl (fun w' hS hV K hK => ?_) ?_
      · obtain ⟨_, q1, q2⟩ := hS
        go_simp
        exact hK.out _ _ _ rfl rfl rfl (Below.refl _ _)
      simp only [List.setIfInBounds_toArray, List.set_cons_zero, List.set_cons_succ]
      refine obs_step (Eq.trans (by simp only [List.getElem?_toArray, List.getElem?_cons_succ, List.getElem?_cons_zero]; exact rfl) rfl) rfl (fun w' hS hV K hK => ?_) ?_
      · obtain ⟨_, q1, q2⟩ := hS
        go_simp
        exact hK.out _ _ _ rfl rfl rfl (Below.refl _ _)
      simp only [List.setIfInBounds_toArray, List.set_cons_zero, List.set_cons_succ]
      refine obs_step (Eq.trans (by simp only [List.getElem?_toArray, List.getElem?_cons_succ, List.getElem?_cons_zero]; exact rfl) rfl) rfl (fun w' hS hV K hK => ?_) ?_
      · obtain ⟨_, q1, q2⟩ := hS
        go_simp
        exact hK.out _ _ _ rfl rfl rfl (Below.refl _ _)
      simp only [List.setIfInBounds_toArray, List.set_cons_zero, List.set_cons_succ]
      refine obs_step (Eq.trans (by simp only [List.getElem?_toArray, List.getElem?_cons_succ, List.getElem?_cons_zero]; exact rfl) rfl) rfl (fun w' hS hV K hK => ?_) ?_
      · have e1 : x 1 = (.slice (some ⟨g, o, none⟩) n c) := hV 1 (by decide)
        have e2 : x 2 = (.int .i64 (j)) := hV 2 (by decide)
        obtain ⟨_, q1, q2⟩ := hS
        go_simp
        exact hK.out _ _ _ rfl rfl rfl (Below.refl _ _)
      simp only [List.setIfInBounds_toArray, List.set_cons_zero, List.set_cons_succ]
      refine obs_step (Eq.trans (by simp only [List.getElem?_toArray, List.getElem?_cons_succ, List.getElem?_cons_zero]; exact rfl) rfl) rfl (fun w' hS hV K hK => ?_) ?_
      · have e1 : x 1 = (.slice (some ⟨g, o, none⟩) n c) := hV 1 (by decide)
        have e2 : x 2 = (.int .i64 (j)) := hV 2 (by decide)
        have e3 : x 3 = (.pointer (some ⟨g, o + j, none⟩)) := hV 3 (by decide)
        obtain ⟨_, q1, q2⟩ := hS
        go_simp
        exact hK.out _ _ _ rfl rfl rfl (Below.refl _ _)
      simp only [List.setIfInBounds_toArray, List.set_cons_zero, List.set_cons_succ]
      refine obs_step (Eq.trans (by simp only [List.getElem?_toArray, List.getElem?_cons_succ, List.getElem?_cons_zero]; exact rfl) rfl) rfl (fun w' hS hV K hK => ?_) ?_
      · obtain ⟨_, q1, q2⟩ := hS
        go_simp
        exact hK.out _ _ _ rfl rfl rfl (Below.refl _ _)
      simp only [List.setIfInBounds_toArray, List.set_cons_zero, List.set_cons_succ]
      refine obs_step (Eq.trans (by simp only [List.getElem?_toArray, List.getElem?_cons_succ, List.getElem?_cons_zero]; exact rfl) rfl) rfl (fun w' hS hV K hK => ?_) ?_
      · obtain ⟨_, q1, q2⟩ := hS
        go_simp
        exact hK.out _ _ _ rfl rfl rfl (Below.refl _ _)
      simp only [List.setIfInBounds_toArray, List.set_cons_zero, List.set_cons_succ]
      refine obs_step (Eq.trans (by simp only [List.getElem?_toArray, List.getElem?_cons_succ, List.getElem?_cons_zero]; exact rfl) rfl) rfl (fun w' hS hV K hK => ?_) ?_
      · obtain ⟨_, q1, q2⟩ := hS
        go_simp
        exact hK.out _ _ _ rfl rfl rfl (Below.refl _ _)
      simp only [List.setIfInBounds_toArray, List.set_cons_zero, List.set_cons_succ]
      refine obs_step (Eq.trans (by simp only [List.getElem?_toArray, List.getElem?_cons_succ, List.getElem?_cons_zero]; exact rfl) rfl) rfl (fun w' hS hV K hK => ?_) ?_
      · have e6 : x 6 = (.slice (some ⟨g2, o2, none⟩) m d) := hV 6 (by decide)
        have e7 : x 7 = (.int .i64 (j)) := hV 7 (by decide)
        obtain ⟨_, q1, q2⟩ := hS
        go_simp
        exact hK.out _ _ _ rfl rfl rfl (Below.refl _ _)
      simp only [List.setIfInBounds_toArray, List.set_cons_zero, List.set_cons_succ]
      refine obs_step (Eq.trans (by simp only [List.getElem?_toArray, List.getElem?_cons_succ, List.getElem?_cons_zero]; exact rfl) rfl) rfl (fun w' hS hV K hK => ?_) ?_
      · have e6 : x 6 = (.slice (some ⟨g2, o2, none⟩) m d) := hV 6 (by decide)
        have e7 : x 7 = (.int .i64 (j)) := hV 7 (by decide)
        have e8 : x 8 = (.pointer (some ⟨g2, o2 + j, none⟩)) := hV 8 (by decide)
        obtain ⟨_, q1, q2⟩ := hS
        go_simp
        exact hK.out _ _ _ rfl rfl rfl (Below.refl _ _)
      simp only [List.setIfInBounds_toArray, List.set_cons_zero, List.set_cons_succ]
      refine obs_step (Eq.trans (by simp only [List.getElem?_toArray, List.getElem?_cons_succ, List.getElem?_cons_zero]; exact rfl) rfl) rfl (fun w' hS hV K hK => ?_) ?_
      · have e5 : x 5 = (.int .i64 (k)) := hV 5 (by decide)
        have e6 : x 6 = (.slice (some ⟨g2, o2, none⟩) m d) := hV 6 (by decide)
        have e7 : x 7 = (.int .i64 (j)) := hV 7 (by decide)
        have e8 : x 8 = (.pointer (some ⟨g2, o2 + j, none⟩)) := hV 8 (by decide)
        have e9 : x 9 = (.int .i64 (ys[j])) := hV 9 (by decide)
        obtain ⟨_, q1, q2⟩ := hS
        go_simp
        exact hK.out _ _ _ rfl rfl rfl (Below.refl _ _)
      simp only [List.setIfInBounds_toArray, List.set_cons_zero, List.set_cons_succ]
      refine obs_step (Eq.trans (by simp only [List.getElem?_toArray, List.getElem?_cons_succ, List.getElem?_cons_zero]; exact rfl) rfl) rfl (fun w' hS hV K hK => ?_) ?_
      · have e1 : x 1 = (.slice (some ⟨g, o, none⟩) n c) := hV 1 (by decide)
        have e2 : x 2 = (.int .i64 (j)) := hV 2 (by decide)
        have e3 : x 3 = (.pointer (some ⟨g, o + j, none⟩)) := hV 3 (by decide)
        have e4 : x 4 = (.int .i64 (xs[j])) := hV 4 (by decide)
        have e5 : x 5 = (.int .i64 (k)) := hV 5 (by decide)
        have e6 : x 6 = (.slice (some ⟨g2, o2, none⟩) m d) := hV 6 (by decide)
        have e7 : x 7 = (.int .i64 (j)) := hV 7 (by decide)
        have e8 : x 8 = (.pointer (some ⟨g2, o2 + j, none⟩)) := hV 8 (by decide)
        have e9 : x 9 = (.int .i64 (ys[j])) := hV 9 (by decide)
        have e10 : x 10 = (.int .i64 (k * ys[j])) := hV 10 (by decide)
        obtain ⟨_, q1, q2⟩ := hS
        go_simp
        exact hK.out _ _ _ rfl rfl rfl (Below.refl _ _)
      simp only [List.setIfInBounds_toArray, List.set_cons_zero, List.set_cons_succ]
      refine obs_step (Eq.trans (by simp only [List.getElem?_toArray, List.getElem?_cons_succ, List.getElem?_cons_zero]; exact rfl) rfl) rfl (fun w' hS hV K hK => ?_) ?_
      · obtain ⟨_, q1, q2⟩ := hS
        go_simp
        exact hK.out _ _ _ rfl rfl rfl (Below.refl _ _)
      simp only [List.setIfInBounds_toArray, List.set_cons_zero, List.set_cons_succ]
      refine obs_step (Eq.trans (by simp only [List.getElem?_toArray, List.getElem?_cons_succ, List.getElem?_cons_zero]; exact rfl) rfl) rfl (fun w' hS hV K hK => ?_) ?_
      · have e1 : x 1 = (.slice (some ⟨g, o, none⟩) n c) := hV 1 (by decide)
        have e2 : x 2 = (.int .i64 (j)) := hV 2 (by decide)
        have e3 : x 3 = (.pointer (some ⟨g, o + j, none⟩)) := hV 3 (by decide)
        have e4 : x 4 = (.int .i64 (xs[j])) := hV 4 (by decide)
        have e5 : x 5 = (.int .i64 (k)) := hV 5 (by decide)
        have e6 : x 6 = (.slice (some ⟨g2, o2, none⟩) m d) := hV 6 (by decide)
        have e7 : x 7 = (.int .i64 (j)) := hV 7 (by decide)
        have e8 : x 8 = (.pointer (some ⟨g2, o2 + j, none⟩)) := hV 8 (by decide)
        have e9 : x 9 = (.int .i64 (ys[j])) := hV 9 (by decide)
        have e10 : x 10 = (.int .i64 (k * ys[j])) := hV 10 (by decide)
        have e11 : x 11 = (.int .i64 (xs[j] + k * ys[j])) := hV 11 (by decide)
        have e12 : x 12 = (.int .i64 (p)) := hV 12 (by decide)
        obtain ⟨_, q1, q2⟩ := hS
        go_simp
        exact hK.out _ _ _ rfl rfl rfl (Below.refl _ _)
      simp only [List.setIfInBounds_toArray, List.set_cons_zero, List.set_cons_succ]
      refine obs_step (Eq.trans (by simp only [List.getElem?_toArray, List.getElem?_cons_succ, List.getElem?_cons_zero]; exact rfl) rfl) rfl (fun w' hS hV K hK => ?_) ?_
      · have e1 : x 1 = (.slice (some ⟨g, o, none⟩) n c) := hV 1 (by decide)
        have e2 : x 2 = (.int .i64 (j)) := hV 2 (by decide)
        have e3 : x 3 = (.pointer (some ⟨g, o + j, none⟩)) := hV 3 (by decide)
        have e4 : x 4 = (.int .i64 (xs[j])) := hV 4 (by decide)
        have e5 : x 5 = (.int .i64 (k)) := hV 5 (by decide)
        have e6 : x 6 = (.slice (some ⟨g2, o2, none⟩) m d) := hV 6 (by decide)
        have e7 : x 7 = (.int .i64 (j)) := hV 7 (by decide)
        have e8 : x 8 = (.pointer (some ⟨g2, o2 + j, none⟩)) := hV 8 (by decide)
        have e9 : x 9 = (.int .i64 (ys[j])) := hV 9 (by decide)
        have e10 : x 10 = (.int .i64 (k * ys[j])) := hV 10 (by decide)
        have e11 : x 11 = (.int .i64 (xs[j] + k * ys[j])) := hV 11 (by decide)
        have e12 : x 12 = (.int .i64 (p)) := hV 12 (by decide)
        have e13 : x 13 = (.int .i64 ((xs[j] + k * ys[j]) % p)) := hV 13 (by decide)
        obtain ⟨_, q1, q2⟩ := hS
        go_simp
        exact hK.out _ _ _ rfl rfl ⟨_, rfl, Blk.new _ _ _⟩ ((Below.refl _ _).alloc (Nat.le_refl _) _)
      simp only [List.setIfInBounds_toArray, List.set_cons_zero, List.set_cons_succ]
      refine fun w' hS hV => ?_
      have e0 : x 0 = (.slice A' j c') := hV 0 (by decide)
      have e1 : x 1 = (.slice (some ⟨g, o, none⟩) n c) := hV 1 (by decide)
      have e2 : x 2 = (.int .i64 (j)) := hV 2 (by decide)
      have e3 : x 3 = (.pointer (some ⟨g, o + j, none⟩)) := hV 3 (by decide)
      have e4 : x 4 = (.int .i64 (xs[j])) := hV 4 (by decide)
      have e5 : x 5 = (.int .i64 (k)) := hV 5 (by decide)
      have e6 : x 6 = (.slice (some ⟨g2, o2, none⟩) m d) := hV 6 (by decide)
      have e7 : x 7 = (.int .i64 (j)) := hV 7 (by decide)
      have e8 : x 8 = (.pointer (some ⟨g2, o2 + j, none⟩)) := hV 8 (by decide)
      have e9 : x 9 = (.int .i64 (ys[j])) := hV 9 (by decide)
      have e10 : x 10 = (.int .i64 (k * ys[j])) := hV 10 (by decide)
      have e11 : x 11 = (.int .i64 (xs[j] + k * ys[j])) := hV 11 (by decide)
      have e12 : x 12 = (.int .i64 (p)) := hV 12 (by decide)
      have e13 : x 13 = (.int .i64 ((xs[j] + k * ys[j]) % p)) := hV 13 (by decide)
      obtain ⟨b14, e14, h14⟩ := hV 14 (by decide)
      simp only [e0, e1, e2, e3, e4, e5, e6, e7, e8, e9, e10, e11, e12, e13, e14]
      clear e0 e1 e2 e3 e4 e5 e6 e7 e8 e9 e10 e11 e12 e13 e14
      obtain ⟨s1, s2, s3⟩ := hS
      refine any_plain (j := 15) (by kernel_rfl) (Eq.trans (by simp only [List.getElem?_toArray, List.getElem?_cons_succ, List.getElem?_cons_zero]; exact rfl) rfl) rfl (fun K hK => ?_)
      refine wp_app1 w w' 22 2 _ _ Tryz.underlying22 info_i rfl (by omega) _ _ rfl A' j c' _ _ s1 (by omega) rfl _ h14 (by rfl) (by rfl) ?_
      intro A2 c2 w2 hM2 hgr
      refine hK.out _ _ ?_
      simp only [Act.put, List.setIfInBounds_toArray, List.set_cons_zero, List.set_cons_succ]
      refine any_one (j := 16) (by kernel_rfl) (Eq.trans (by simp only [List.getElem?_toArray, List.getElem?_cons_succ, List.getElem?_cons_zero]; exact rfl) rfl) (fun K hK => ?_)
      go_simp
      refine hK.out _ _ (wpAny_done (by kernel_rfl) ?_ _)
      clear W1 W2 W3 s2 s3 hM
      go_wp2
      go_roundw
      case rel => exact ⟨j + 1, A2, c2, by omega, by go_num, rfl, by rw [HV.out]; simpa [MkI, ints] using hM2⟩
      case measure => simp [intOf]; omega
    · go_wp2
      go_ret
      obtain rfl : j = n := by omega
      exact ⟨_, _, rfl, by unfold plusL; rw [Hx.out]; exact hM⟩
end Go.Proofs.YticofgmmjecleaaGreatDoor
namespace Go.Proofs.YticofgmmjecleaaGreatDoor
open Go Go.RowKit
/-- What a part of the reader leaves. -/
def RdPost (P : Int) (sq : List Int) (A : Option Addr) (n c : Nat) (m : Md) (t : By) (R : Nat) (w : World) (e : Ending) (w' : World) : Prop :=
  ∃ (A' : Option Addr) (c' : Nat) (x : List Int) (t' : By) (b : Bool), e = .returned (.slice A' (pw n) c') ∧ RdB w' R P A n c t' b ∧ MuL P n x ∧ Own w' w.heap.size 2 A' (pw n) c' (ints x) ∧ t'.length ≤ t.length ∧ evE P sq n m t = (if b = true then none else some (x, t')) ∧ Ex R w w'
/-- Function F reads a part of kind m at the text t. -/
def RdC (F : FuncId) (P : Int) (sq : List Int) (A : Option Addr) (n c : Nat) (m : Md) (t : By) : Prop :=
  ∀ (R : Nat) (w : World), EnvB R w → (∀ a, A = some a → a.block < R) → Rd w A n (ints sq) → RdB w R P A n c t false → Calls Tryz.prog F #[.pointer (some ⟨R, 0, none⟩)] w (RdPost P sq A n c m t R w)
set_option maxHeartbeats 6400000 in
set_option maxRecDepth 8000 in
theorem rsum_any (P : Int) (sq : List Int) (A : Option Addr) (n c : Nat) (t : By) (hp : 2 ≤ P) (hp2 : P ≤ 13) (hn : n ≤ 6) (ht : t.length ≤ 1048576)
    (hpr : ∀ t' : By, t'.length ≤ t.length → RdC 121 P sq A n c .prod t') : RdC 92 P sq A n c .sum t := by
  intro R w he hA hr hk
  have hpn : pw n ≤ 64 := pw_le hn
  have h0 := hpr t (Nat.le_refl _) R w he hA hr hk
  have HG := hk.lt
  obtain ⟨V, hV⟩ : ∃ V, V = evE P sq n .sum t := ⟨_, rfl⟩
  have HV := Lib.hid hV
  clear hV
  go_enter Tryz.func92, Tryz.ntmps92
  go_wp2_with fail
  refine h0.mono ?_
  rintro e w1 ⟨A1, c1, x1, t1, b1, rfl, hk1, hx1, hO1, hl1, hev1, hE1⟩
  have hs1 : V = if b1 = true then none else evE P sq n (.sumL x1) t1 := by
    rw [HV.out, evE_sum_eq, hev1]; cases b1 <;> rfl
  clear h0 hev1
  go_wp2
  go_loopw [3] (fun out wr => ∃ (A1 : Option Addr) (c1 : Nat) (x1 : List Int) (t1 : By) (b1 : Bool), out = .slice A1 (pw n) c1 ∧ RdB wr R P A n c t1 b1 ∧ MuL P n x1 ∧ Own wr w.heap.size 2 A1 (pw n) c1 (ints x1) ∧ t1.length ≤ t.length ∧ V = (if b1 = true then none else evE P sq n (.sumL x1) t1) ∧ Ex R w wr) (fun _ wr => match wr.cell? ⟨R, 2, none⟩ with | some (.string s) => s.size | _ => 0)
  case atStart => exact ⟨A1, c1, x1, t1, b1, rfl, hk1, hx1, hO1, hl1, hs1, hE1⟩
  case round =>
    clear hk1 hx1 hO1 hl1 hs1 hE1
    obtain ⟨A1, c1, x1, t1, b1, rfl, hk1, hx1, hO1, hl1, hs1, hE1⟩ := hrel
    have q3 := hk1.cell 3
    have HS := Lib.hid hs1
    clear hs1
    cases b1 with
    | true =>
      go_wp2
      go_ret
      exact ⟨A1, c1, x1, t1, true, rfl, hk1, hx1, hO1, hl1, HV.out.symm.trans HS.out, hE1⟩
    | false =>
      have heB := he.on hE1.b
      cases hnx : nxt [43, 45] t1 with
      | none =>
        have hcall := next_none P A n c t1 [43, 45] false R wr heB.here.e (by decide) hk1 hnx
        go_wp2_with (go_at_call 122; refine hcall.mono ?_; rintro e w2 ⟨rfl, rfl⟩)
        go_ret
        exact ⟨A1, c1, x1, t1, false, rfl, hk1, hx1, hO1, hl1, by rw [← HV.out, HS.out]; exact evE_sumL_none x1 hnx, hE1⟩
      | some q =>
        obtain ⟨d, t2⟩ := q
        have hcall := next_some P A n c t1 [43, 45] false R wr d t2 heB.here.e (by decide) hk1 hnx
        have hpm := nxt_pm hnx
        have hln := nxt_len hnx
        have HS2 : Hid (V = (evE P sq n .prod t2).bind fun r => evE P sq n (.sumL (plusL P x1 r.1 (if d = 45 then -1 else 1))) r.2) := Lib.hid (by
          rw [HS.out]
          show evE P sq n (.sumL x1) t1 = _
          rw [evE_sumL_some x1 hnx]
          congr 1
          funext r
          rw [opL_add d _ _ hpm])
        have hsz : (match wr.cell? ⟨R, 2, none⟩ with | some (.string s) => s.size | _ => 0) = t1.length := by rw [hk1.cell 2]; exact bs_len t1
        rw [hsz]
        clear HS hnx hsz
        have HMU := Lib.hid hx1
        clear hx1
        rcases hpm with rfl | rfl
        all_goals
          go_wp2_with fail
          refine hcall.mono ?_
          rintro e w2 ⟨rfl, hk2, hE2⟩
          have hO2 := hO1.ex hE2 hk1 (by decide)
          have hE3 := hE1.trans hE2
          clear hcall hO1 hE1 hE2 hk1 q3 heB
          obtain ⟨q0, q1, q2, q3⟩ := hk2.four
          go_wp2_with fail
          refine (field_any P A n c w2).mono ?_
          rintro e w3 ⟨rfl, hb3⟩
          have hk3 := hk2.below hb3 hk2.lt
          have hO3 := hO2.below hb3
          have hE4 := hE3.then hb3 (Nat.le_of_lt HG)
          clear hO2 hE3 q0 q1 q2 q3 hb3 hk2
          have hcall := hpr t2 (by omega) R w3 (he.on hE4.b) hA (hr.ex hE4 hA) hk3
          go_wp2_with fail
          refine hcall.mono ?_
          rintro e w4 ⟨A2, c2, x2, t3, b2, rfl, hk4, hx2, hO4, hl2, hev2, hE5⟩
          have hO5 := hO3.ex hE5 hk3 (by decide)
          have hO6 := hO4.base (B' := w.heap.size) hE4.size
          have hE6 := hE4.trans hE5
          have HEV := Lib.hid hev2
          clear hcall hO3 hE4 hE5 hk3 hO4 hev2
          go_wp2_with fail
          refine (plus_any P A1 (pw n) c1 A2 (pw n) c2 _ x1 x2 w4 hp hp2 (by omega) (Nat.le_refl _) hO5.rd HMU.out.2 hO6.rd hx2.2 (by omega) (by omega)).mono ?_
          rintro e w5 ⟨A3, c3, rfl, hM⟩
          have hk5 := hk4.below hM.b hk4.lt
          have hE7 := hE6.then hM.b (Nat.le_of_lt HG)
          have hO7 := hM.2.base (B' := w.heap.size) hE6.size
          clear hE6 hO5 hO6 hk4 hM
          go_wp2
          go_roundw
          case rel =>
            refine ⟨A3, c3, _, t3, b2, rfl, hk5, ⟨(plusL_len _ _ _ _).trans HMU.out.1, plusL_nums (by omega) _ _ _⟩, hO7, by omega, ?_, hE7⟩
            rw [HS2.out, HEV.out]
            cases b2 <;> rfl
          case measure =>
            rw [hk5.cell 2]
            show (ByteArray.mk t3.toArray).size < _
            rw [bs_len]; omega
end Go.Proofs.YticofgmmjecleaaGreatDoor
namespace Go.Proofs.YticofgmmjecleaaGreatDoor
open Go.RowKit
section
variable {P : Program} {ops : Array Oper} {Q : Exit → Act → World → Prop}
/-- Those whose values are good still when operation j is done (C: what each uses up). -/
def availR (R C : List (List Nat)) (m j : Nat) : List Nat := (R.getD j []).filter fun i => (List.range m).all fun k => !((C.getD k []).contains i) || k == j || (R.getD k []).contains j
/-- .. and at the end of the first m. -/
def endR (C : List (List Nat)) (m : Nat) : List Nat := (List.range m).filter fun i => (List.range m).all fun k => !((C.getD k []).contains i)
/-- What operation j may do to the world: add to it, or, where C has something at j, what Rel allows. -/
def StepR (C : List (List Nat)) (Rel : World → World → Prop) (j : Nat) (w w' : World) : Prop := if (C.getD j []).isEmpty then Below w.heap.size w w' else Rel w w'
theorem StepR.plain {C : List (List Nat)} {Rel : World → World → Prop} {j : Nat} {w w' : World} (h : (C.getD j []).isEmpty = true) (hb : Below w.heap.size w w') : StepR C Rel j w w' := by unfold StepR; rw [h]; exact hb
theorem StepR.rel {C : List (List Nat)} {Rel : World → World → Prop} {j : Nat} {w w' : World} (h : (C.getD j []).isEmpty = false) (hb : Rel w w') : StepR C Rel j w w' := by unfold StepR; rw [h]; exact hb
theorem StepR.either {C : List (List Nat)} {Rel : World → World → Prop} {j : Nat} {w w' : World} {q : Prop} (h : StepR C Rel j w w') (h1 : Below w.heap.size w w' → q) (h2 : Rel w w' → q) : q := by
  unfold StepR at h
  split at h
  · exact h1 h
  · exact h2 h
theorem not_containsR {L : List Nat} {i : Nat} : (!(L.contains i)) = true ↔ i ∉ L := by
  rw [Bool.not_eq_true', ← Bool.not_eq_true, List.contains_iff_mem]
theorem availR_spec {R C : List (List Nat)} {m j i : Nat} : i ∈ availR R C m j ↔ i ∈ R.getD j [] ∧ ∀ k, k < m → i ∈ C.getD k [] → k = j ∨ j ∈ R.getD k [] := by
  unfold availR
  rw [List.mem_filter, List.all_eq_true]
  refine and_congr_right fun _ => ⟨fun h k hk hi => ?_, fun h k hk => ?_⟩
  · have h1 := h k (List.mem_range.2 hk)
    rw [Bool.or_eq_true, Bool.or_eq_true, not_containsR, beq_iff_eq, List.contains_iff_mem] at h1
    rcases h1 with (h1 | h1) | h1
    · exact absurd hi h1
    · exact .inl h1
    · exact .inr h1
  · rw [Bool.or_eq_true, Bool.or_eq_true, not_containsR, beq_iff_eq, List.contains_iff_mem]
    by_cases hi : i ∈ C.getD k []
    · rcases h k (List.mem_range.1 hk) hi with h1 | h1
      · exact .inl (.inr h1)
      · exact .inr h1
    · exact .inl (.inl hi)
theorem endR_spec {C : List (List Nat)} {m i : Nat} : i ∈ endR C m ↔ i < m ∧ ∀ k, k < m → i ∉ C.getD k [] := by
  unfold endR
  rw [List.mem_filter, List.all_eq_true, List.mem_range]
  exact and_congr_right fun _ => ⟨fun h k hk => not_containsR.1 (h k (List.mem_range.2 hk)), fun h k hk => not_containsR.2 (h k (List.mem_range.1 hk))⟩
/-- Those that bear an append in place: their values are plain. -/
theorem weak_ofR {m : Nat} {Rel : World → World → Prop} {R C : List (List Nat)} {V : (Nat → Value) → List VP} (Wk : List Nat)
    (hchk : ((List.range m).all fun i => (C.getD i []).isEmpty || (List.range m).all fun k => k == i || (R.getD k []).contains i || (C.getD i []).contains k || Wk.contains k) = true)
    (hW : ∀ k ∈ Wk, ∀ x v w w', ((V x).getD k VAny).p v w → Rel w w' → ((V x).getD k VAny).p v w') :
    ∀ i, i < m → (C.getD i []).isEmpty = false → ∀ k, k < m → k ≠ i → i ∉ R.getD k [] → k ∉ C.getD i [] → ∀ x v w w', ((V x).getD k VAny).p v w → Rel w w' → ((V x).getD k VAny).p v w' := by
  intro i hi he k hk hne hR hC x v w w' hp hrel
  have h1 := List.all_eq_true.1 hchk i (List.mem_range.2 hi)
  rw [he, Bool.false_or] at h1
  have h2 := List.all_eq_true.1 h1 k (List.mem_range.2 hk)
  rw [Bool.or_eq_true, Bool.or_eq_true, Bool.or_eq_true, beq_iff_eq, List.contains_iff_mem, List.contains_iff_mem, List.contains_iff_mem] at h2
  rcases h2 with ((h2 | h2) | h2) | h2
  · exact absurd h2 hne
  · exact absurd h2 hR
  · exact absurd h2 hC
  · exact hW k h2 x v w w' hp hrel
end
end Go.Proofs.YticofgmmjecleaaGreatDoor
namespace Go.Proofs.YticofgmmjecleaaGreatDoor
open Go.RowKit
theorem getD_step {l : Array Bool} {i k0 : Nat} (h : i < l.size) : (l.getD k0 false || i == k0) = (l.setIfInBounds i true).getD k0 false := by
  by_cases e : i = k0
  · subst e; simp [Array.getD, h]
  · rw [getD_set_ne _ e]
    have : (i == k0) = false := by simpa using e
    rw [this, Bool.or_false]
section
variable {P : Program} {ops : Array Oper} {Q : Exit → Act → World → Prop}
/-- What is to be shown of operation j. -/
def ObK (P : Program) (ops : Array Oper) (k0 : Nat) (S : Bool → World → Prop) (R C : List (List Nat)) (Rel : World → World → Prop) (m : Nat) (V : (Nat → Value) → List VP) (x : Nat → Value) (a0 : Act) (j : Nat) : Prop :=
  ∀ b w, (j = k0 → b = false) → S b w → (∀ i ∈ availR R C m j, ((V x).getD i VAny).p (x i) w) →
    wpOp P ops NoWay j (fun a' w' => ∃ v, (∀ d, dstOf ops j = some d → a'.tmps[d]? = some v) ∧ a'.defers = a0.defers ∧ ((V x).getD j VAny).p v w' ∧ StepR C Rel j w w') (putS ops x a0 j) w
theorem tasks_goK {m : Nat} {Rel : World → World → Prop} {R C : List (List Nat)} {V : (Nat → Value) → List VP} {k0 : Nat} {S : Bool → World → Prop} {a0 : Act} (hok : tasksOk ops m a0.tmps.size R = true)
    (hdep : ∀ x x' j, (∀ i ∈ R.getD j [], x i = x' i) → (V x).getD j VAny = (V x').getD j VAny) (hweak : ∀ i, i < m → (C.getD i []).isEmpty = false → ∀ k, k < m → k ≠ i → i ∉ R.getD k [] → k ∉ C.getD i [] → ∀ x v w w', ((V x).getD k VAny).p v w → Rel w w' → ((V x).getD k VAny).p v w') (hSt : ∀ j b w w', S b w → StepR C Rel j w w' → S (b || j == k0) w') (hob : ∀ x j, j < m → ObK P ops k0 S R C Rel m V x a0 j)
    (hend : ∀ x w' b, S b w' → (∀ i ∈ endR C m, ((V x).getD i VAny).p (x i) w') → wpAny P .any ops Q (ops.size - m) (listedTo ops.size m) (putS ops x a0 m) w') :
    ∀ (c : Nat) (U : List Nat) (listed : Array Bool) (w : World) (x : Nat → Value), U.length = c → U.Nodup → (∀ i, i ∈ U ↔ i < m ∧ listed.getD i false = false) → listed.size = ops.size →
      (∀ i, m ≤ i → i < ops.size → listed.getD i false = false) → (∀ (j : Nat) (o : Oper), ops[j]? = some o → listed.getD j false = true → ∀ e ∈ o.after, Region.binds .any e = true → listed.getD e.on false = true) →
      S (listed.getD k0 false) w → (∀ i, i < m → listed.getD i false = true → (∀ j, j < m → i ∈ C.getD j [] → listed.getD j false = false) → ((V x).getD i VAny).p (x i) w) → wpAny P .any ops Q (ops.size - m + c) listed (putD ops (fun i => listed.getD i false) x a0 m) w := by
  obtain ⟨hmn, hspec, htail⟩ := tasks_spec hok
  have hsel : Region.noSelect ops = true := by unfold tasksOk at hok; simp only [Bool.and_eq_true] at hok; exact hok.1.1
  intro c
  induction c with
  | zero =>
    intro U listed w x hU hnd hmem hsz hun hcl hS hV
    obtain rfl : U = [] := List.eq_nil_of_length_eq_zero hU
    have hall : ∀ i, i < m → listed.getD i false = true := fun i hi => by
      cases h : listed.getD i false
      · exact absurd ((hmem i).2 ⟨hi, h⟩) (by simp)
      · rfl
    have hl : listed = listedTo ops.size m := by
      apply Array.ext
      · simp [listedTo, hsz]
      · intro i h1 h2
        have e : listed.getD i false = listed[i] := by simp [Array.getD, h1]
        by_cases hi : i < m
        · have := hall i hi
          rw [e] at this
          simp [listedTo, this, hi]
        · have := hun i (by omega) (by omega)
          rw [e] at this
          simp [listedTo, this, hi]
    rw [Nat.add_zero, putD_congr (ops := ops) _ (fun _ => true) x x a0 m (fun i hi => ⟨hall i hi, fun _ => rfl⟩), hl]
    exact hend x w _ hS (fun i hi => hV i (endR_spec.1 hi).1 (hall i (endR_spec.1 hi).1) (fun j hj hc => absurd hc ((endR_spec.1 hi).2 j hj)))
  | succ c ih =>
    intro U listed w x hU hnd hmem hsz hun hcl hS hV
    have hne : U ≠ [] := fun e => by rw [e] at hU; simp at hU
    show (_ → _) ∧ _
    refine ⟨fun hr => ?_, fun i hi => ?_⟩
    · exfalso
      obtain ⟨i, hiU, hmin⟩ := min_mem U hne
      obtain ⟨him, hil⟩ := (hmem i).1 hiU
      have hlt : i < ops.size := by omega
      have : i ∈ Region.ready .any ops listed := mem_ready.2 ⟨by simpa [Array.getD, hsz, hlt] using hil, _, Array.getElem?_eq_getElem hlt, fun e he hb => by
        have hlti := (hspec i _ (Array.getElem?_eq_getElem hlt) him).1 e he hb
        cases h : listed.getD e.on false
        · have := hmin e.on ((hmem _).2 ⟨by omega, h⟩); omega
        · rfl⟩
      rw [hr] at this
      cases this
    · obtain ⟨hil, o, ho, hdeps⟩ := mem_ready.1 hi
      have hlt : i < ops.size := (Array.getElem?_eq_some_iff.1 ho).1
      have hil' : listed.getD i false = false := by simpa [Array.getD, hsz, hlt] using hil
      have hreach := listed_reach hok (fun i => listed.getD i false) hcl i o ho hdeps
      have him : i < m := by
        rcases Nat.lt_or_ge i m with h | h
        · exact h
        · exfalso
          obtain ⟨k, hk⟩ := List.exists_mem_of_ne_nil U hne
          obtain ⟨hkm, hkl⟩ := (hmem k).1 hk
          have := hreach k (htail i hlt h k hkm)
          rw [hkl] at this; cases this
      obtain ⟨_, ⟨d, hd, hdsz, hduniq⟩, hlook⟩ := hspec i o ho him
      have hdst : dstOf ops i = some d := by simp [dstOf, ho, hd]
      have hso : ∀ cs b, o.op ≠ .select cs b := fun cs b => Region.noSelect_spec hsel i o cs b ho
      -- the two frames agree on what o looks at
      have hagree : ∀ t ∈ o.looksAt ops, (putD ops (fun i => listed.getD i false) x a0 m).tmps[t]? = (putS ops x a0 i).tmps[t]? := fun t ht => by
        by_cases hex : ∃ k, k < m ∧ dstOf ops k = some t
        · obtain ⟨k, hkm, hkd⟩ := hex
          have hkR := hlook t ht k hkm hkd
          have hki := reach_lt hok i hlt k hkR
          have hkl := hreach k hkR
          have hks : k < ops.size := by omega
          obtain ⟨_, ⟨d', hd', hdsz', hu'⟩, _⟩ := hspec k _ (Array.getElem?_eq_getElem hks) hkm
          have htd : d' = t := by
            have : dstOf ops k = some d' := by simp [dstOf, Array.getElem?_eq_getElem hks, hd']
            rw [hkd] at this; injection this with this; exact this.symm
          rw [putD_at _ _ _ _ k hkd hkl (htd ▸ hdsz') m hkm (fun l hl hlk => htd ▸ hu' l hl hlk)]
          unfold putS
          rw [putD_at _ _ _ _ k hkd rfl (htd ▸ hdsz') i hki (fun l hl hlk => htd ▸ hu' l (by omega) hlk)]
        · rw [putD_other _ _ _ _ m (fun k hk hkd => absurd ⟨k, hk, hkd⟩ hex)]
          unfold putS
          rw [putD_other _ _ _ _ i (fun k hk hkd => absurd ⟨k, by omega, hkd⟩ hex)]
      have hob' := hob x i him (listed.getD k0 false) w (fun e => by rw [← e]; exact hil') hS (fun k hk => by
        obtain ⟨hkR, hkC⟩ := availR_spec.1 hk
        refine hV k (by have := reach_lt hok i hlt k hkR; omega) (hreach k hkR) (fun j hj hc => ?_)
        rcases hkC j hj hc with rfl | hij
        · exact hil'
        · cases hjl : listed.getD j false
          · rfl
          · have hjs : j < ops.size := by omega
            have := listed_reach hok (fun i => listed.getD i false) hcl j _ (Array.getElem?_eq_getElem hjs) (hcl j _ (Array.getElem?_eq_getElem hjs) hjl) i hij
            rw [hil'] at this; cases this)
      have hsz1 := putD_size (ops := ops) (fun _ => true) x a0 i
      -- what comes behind
      have next : ∀ v w', ((V x).getD i VAny).p v w' → StepR C Rel i w w' → wpAny P .any ops Q (ops.size - m + c) (listed.setIfInBounds i true) ((putD ops (fun i => listed.getD i false) x a0 m).put (some d) v) w' := fun v w' hv hb => by
        have hput := putD_put (ops := ops) (fun k => listed.getD k false) (fun k => (listed.setIfInBounds i true).getD k false) x (fun k => if k = i then v else x k) a0 i hil'
          (by simp [hsz, hlt]) (fun k hk => ⟨by rw [getD_set_ne _ (Ne.symm hk)], by simp [hk]⟩) m him
          (fun d' k hk hki hd' => by rw [hdst] at hd'; injection hd' with hd'; exact hd' ▸ hduniq k hk hki)
        simp only [if_true] at hput
        rw [← hdst, hput]
        refine ih (U.erase i) _ _ _ ?_ (hnd.erase _) (fun k => ?_) (by simpa using hsz) (fun k h1 h2 => ?_) (fun j oj hoj hj e he hb' => ?_) (getD_step (k0 := k0) (i := i) (l := listed) (by rw [hsz]; exact hlt) ▸ hSt i _ _ _ hS hb) (fun k hk hkl hcons => ?_)
        · rw [List.length_erase_of_mem ((hmem i).2 ⟨him, hil'⟩), hU]; rfl
        · rw [hnd.mem_erase_iff, hmem]
          by_cases hk : k = i
          · subst hk; simp [hsz, hlt]
          · rw [getD_set_ne _ (Ne.symm hk)]; simp [hk]
        · rw [getD_set_ne _ (by omega)]; exact hun k h1 h2
        · by_cases hji : j = i
          · subst hji
            rw [ho] at hoj; injection hoj with hoj; subst hoj
            exact getD_set_true (hdeps e he hb')
          · rw [getD_set_ne _ (Ne.symm hji)] at hj
            exact getD_set_true (hcl j oj hoj hj e he hb')
        · by_cases hki : k = i
          · subst hki
            rw [hdep _ x k (fun l hl => by have := reach_lt hok k hlt l hl; simp only [show l ≠ k by omega, if_false])]
            simpa using hv
          · rw [getD_set_ne _ (Ne.symm hki)] at hkl
            have hks : k < ops.size := by omega
            have hdk : (V fun l => if l = i then v else x l).getD k VAny = (V x).getD k VAny := hdep _ x k (fun l hl => by
              have hll := listed_reach hok (fun i => listed.getD i false) hcl k _ (Array.getElem?_eq_getElem hks) (hcl k _ (Array.getElem?_eq_getElem hks) hkl) l hl
              have hne : l ≠ i := fun e => by rw [e] at hll; rw [hil'] at hll; cases hll
              simp only [hne, if_false])
            simp only [hki, if_false]
            rw [hdk]
            have hb0 : ∀ j, j < m → k ∈ C.getD j [] → listed.getD j false = false := fun j hj hc => by
              have h1 := hcons j hj hc
              by_cases hji : j = i
              · rw [hji]; exact hil'
              · rwa [getD_set_ne _ (Ne.symm hji)] at h1
            have hkC : k ∉ C.getD i [] := fun hc => by
              have h1 := hcons i him hc
              simp [hsz, hlt] at h1
            have hiR : i ∉ R.getD k [] := fun hik => by
              have := listed_reach hok (fun i => listed.getD i false) hcl k _ (Array.getElem?_eq_getElem hks) (hcl k _ (Array.getElem?_eq_getElem hks) hkl) i hik
              rw [hil'] at this; cases this
            cases he : (C.getD i []).isEmpty
            · replace hb : Rel w w' := by unfold StepR at hb; rw [he] at hb; exact hb
              exact hweak i him he k hk hki hiR hkC x _ _ _ (hV k hk hkl hb0) hb
            · replace hb : Below w.heap.size w w' := by unfold StepR at hb; rw [he] at hb; exact hb
              exact ((V x).getD k VAny).st _ _ _ (hV k hk hkl hb0) hb
      unfold wpOp at hob' ⊢
      simp only [ho] at hob' ⊢
      rw [wanted_same hagree]
      split
      · rename_i hw
        rw [if_pos hw] at hob'
        rcases hob' with h | ⟨_, h⟩
        case inr => exact absurd h NoWay.lets
        refine .inl (Oper.wp_mono ?_ (wp_move (Q := Q) (d := d) (R := fun v w' => ((V x).getD i VAny).p v w' ∧ StepR C Rel i w w') (exec_same hso hagree) hd (by unfold putS; rw [hsz1.1]; exact hdsz)
          (Oper.wp_mono (fun a' w' ⟨v, h1, h2, h3, h4⟩ => ⟨v, h1 d hdst, by unfold putS; rw [hsz1.2]; exact h2, h3, h4⟩) h)))
        rintro a' w' ⟨v, rfl, hv, hb⟩
        exact next v w' hv hb
      · rename_i hw
        rw [if_neg hw] at hob'
        obtain ⟨v, h1, _, h3, h4⟩ := hob'
        have hvu : v = undef := by
          have := h1 d hdst
          rw [hd] at this
          simp [Act.put, putS, hsz1.1, hdsz] at this
          exact this.symm
        rw [hd]
        exact next undef w (hvu ▸ h3) h4
/-- **A region that draws its order**: each of its first m operations is shown once; what is left behind them goes on. -/
theorem wp_tasksK {id m : Nat} {Rel : World → World → Prop} (R C : List (List Nat)) (V : (Nat → Value) → List VP) (k0 : Nat) (S : Bool → World → Prop) {a0 : Act} {w : World} (hm : P.follows .mixedOrders = true) (hok : tasksOk ops m a0.tmps.size R = true)
    (hdep : ∀ x x' j, (∀ i ∈ R.getD j [], x i = x' i) → (V x).getD j VAny = (V x').getD j VAny) (hweak : ∀ i, i < m → (C.getD i []).isEmpty = false → ∀ k, k < m → k ≠ i → i ∉ R.getD k [] → k ∉ C.getD i [] → ∀ x v w w', ((V x).getD k VAny).p v w → Rel w w' → ((V x).getD k VAny).p v w') (hS0 : S false w.drew) (hSt : ∀ j b w w', S b w → StepR C Rel j w w' → S (b || j == k0) w') (hob : ∀ x j, j < m → ObK P ops k0 S R C Rel m V x a0 j)
    (hend : ∀ x w' b, S b w' → (∀ i ∈ endR C m, ((V x).getD i VAny).p (x i) w') → wpAny P .any ops Q (ops.size - m) (listedTo ops.size m) (putS ops x a0 m) w') : (Code.region id ops true).wp P Q a0 w := by
  have hmn := (tasks_spec hok).1
  have hf : ∀ i, (Array.replicate ops.size false).getD i false = false := fun i => by simp [Array.getD]
  have h := tasks_goK (Q := Q) hok hdep hweak hSt hob hend m (List.range m) (Array.replicate ops.size false) w.drew (fun _ => undef) (by simp) List.nodup_range (fun i => by rw [hf]; simp) (by simp) (fun i _ _ => hf i) (fun j o _ hj => by rw [hf] at hj; cases hj) (by rw [hf]; exact hS0)
    (fun i _ hi => by rw [hf] at hi; cases hi)
  refine wp_region_any hm ?_
  rw [show ops.size - m + m = ops.size by omega, putD_congr (ops := ops) _ (fun _ => false) _ (fun _ => undef) a0 m (fun i _ => ⟨hf i, fun _ => rfl⟩)] at h
  have e : ∀ n, putD ops (fun _ => false) (fun _ => undef) a0 n = a0 := fun n => by
    induction n with
    | zero => rfl
    | succ n ih => unfold putD; simpa using ih
  rw [e] at h
  exact h
/-- What is to be shown, operation by operation, in the text's order; the frame goes along. -/
def ObsK (P : Program) (ops : Array Oper) (Q : Exit → Act → World → Prop) (k0 : Nat) (S : Bool → World → Prop) (R C : List (List Nat)) (Rel : World → World → Prop) (m : Nat) (V : (Nat → Value) → List VP) (x : Nat → Value) : Nat → Nat → Act → Prop
  | 0, j, a => ∀ w b, S b w → (∀ i ∈ endR C m, ((V x).getD i VAny).p (x i) w) → wpAny P .any ops Q (ops.size - j) (listedTo ops.size j) a w
  | r + 1, j, a => (∀ b w, (j = k0 → b = false) → S b w → (∀ i ∈ availR R C m j, ((V x).getD i VAny).p (x i) w) →
      wpOp P ops NoWay j (fun a' w' => ∃ v, (∀ d, dstOf ops j = some d → a'.tmps[d]? = some v) ∧ a'.defers = a.defers ∧ ((V x).getD j VAny).p v w' ∧ StepR C Rel j w w') a w) ∧
    ObsK P ops Q k0 S R C Rel m V x r (j + 1) (a.put (dstOf ops j) (x j))
theorem obs_allK {k0 : Nat} {S : Bool → World → Prop} {R C : List (List Nat)} {Rel : World → World → Prop} {m : Nat} {V : (Nat → Value) → List VP} {x : Nat → Value} {a0 : Act} : ∀ (r j : Nat), ObsK P ops Q k0 S R C Rel m V x r j (putS ops x a0 j) →
    (∀ k, j ≤ k → k < j + r → ObK P ops k0 S R C Rel m V x a0 k) ∧ ∀ w b, S b w → (∀ i ∈ endR C m, ((V x).getD i VAny).p (x i) w) → wpAny P .any ops Q (ops.size - (j + r)) (listedTo ops.size (j + r)) (putS ops x a0 (j + r)) w := by
  intro r
  induction r with
  | zero => intro j h; exact ⟨fun k h1 h2 => by omega, h⟩
  | succ r ih =>
    intro j h
    obtain ⟨h1, h2⟩ := h
    have h2' : ObsK P ops Q k0 S R C Rel m V x r (j + 1) (putS ops x a0 (j + 1)) := h2
    obtain ⟨h3, h4⟩ := ih (j + 1) h2'
    refine ⟨fun k hk1 hk2 => ?_, by rw [show j + (r + 1) = j + 1 + r by omega]; exact h4⟩
    by_cases hk : k = j
    · subst hk
      intro b w hb0 hS hV
      have h := h1 b w hb0 hS hV
      rw [show (putS ops x a0 k).defers = a0.defers from (putD_size _ _ _ _).2] at h
      exact h
    · exact h3 k (by omega) (by omega)
theorem wp_obsK {id : Nat} (m : Nat) (Rel : World → World → Prop) (R C : List (List Nat)) (V : (Nat → Value) → List VP) (k0 : Nat) (S : Bool → World → Prop) {a0 : Act} {w : World} (hm : P.follows .mixedOrders = true) (hok : tasksOk ops m a0.tmps.size R = true)
    (hdep : ∀ x x' j, (∀ i ∈ R.getD j [], x i = x' i) → (V x).getD j VAny = (V x').getD j VAny) (hweak : ∀ i, i < m → (C.getD i []).isEmpty = false → ∀ k, k < m → k ≠ i → i ∉ R.getD k [] → k ∉ C.getD i [] → ∀ x v w w', ((V x).getD k VAny).p v w → Rel w w' → ((V x).getD k VAny).p v w') (hSt : ∀ j b w w', S b w → StepR C Rel j w w' → S (b || j == k0) w') (hS0 : S false w.drew) (h : ∀ x, ObsK P ops Q k0 S R C Rel m V x m 0 a0) : (Code.region id ops true).wp P Q a0 w :=
  wp_tasksK (m := m) (Rel := Rel) R C V k0 S hm hok hdep hweak hS0 hSt (fun x j hj => (obs_allK m 0 (h x)).1 j (by omega) (by omega)) (fun x w' b hS hV => by
    have := (obs_allK m 0 (h x)).2 w' b hS (hV)
    rwa [Nat.zero_add] at this)
theorem obs_stepK {k0 : Nat} {S : Bool → World → Prop} {R C : List (List Nat)} {Rel : World → World → Prop} {m : Nat} {V : (Nat → Value) → List VP} {x : Nat → Value} {r j : Nat} {a : Act} {o : Oper} {d : Tmp} (ho : ops[j]? = some o) (hd : o.dst = some d)
    (h : ∀ b w, (j = k0 → b = false) → S b w → (∀ i ∈ availR R C m j, ((V x).getD i VAny).p (x i) w) → ∀ K : Act → World → Prop, Shut (∀ a' w' v, a'.tmps[d]? = some v → a'.defers = a.defers → ((V x).getD j VAny).p v w' → StepR C Rel j w w' → K a' w') →
      if Region.wanted o (yielded ops a.tmps) = true then Oper.wp P o a w K NoWay else K (a.put o.dst undef) w)
    (hr : ObsK P ops Q k0 S R C Rel m V x r (j + 1) { a with tmps := a.tmps.setIfInBounds d (x j) }) : ObsK P ops Q k0 S R C Rel m V x (r + 1) j a := by
  have hdst : dstOf ops j = some d := by simp [dstOf, ho, hd]
  refine ⟨fun b w hb0 hS hV => wpOp_step ho (fun K hK => ?_), by rw [hdst]; exact hr⟩
  exact h b w hb0 hS hV K (fun a' w' v h1 h2 h3 h4 => hK a' w' ⟨v, fun d' hd' => by rw [hdst] at hd'; injection hd' with hd'; exact hd' ▸ h1, h2, h3, h4⟩)
end
end Go.Proofs.YticofgmmjecleaaGreatDoor
namespace Go.Proofs.YticofgmmjecleaaGreatDoor
theorem xor_eq_iff (a k m : Nat) : a ^^^ k = m ↔ k = a ^^^ m := by
  constructor
  · rintro rfl; rw [← Nat.xor_assoc, Nat.xor_self, Nat.zero_xor]
  · rintro rfl; rw [← Nat.xor_assoc, Nat.xor_self, Nat.zero_xor]
/-- What row a adds to place m. -/
def term (p : Int) (sq : List Int) (t : Nat → Nat → Bool) (x y : List Int) (m a : Nat) : Int :=
  if t a (a ^^^ m) = true then x.getD a 0 * y.getD (a ^^^ m) 0 * fac p sq a (a ^^^ m) else 0
theorem addRow_getD (p : Int) (sq : List Int) (t : Nat → Nat → Bool) (x y : List Int) (a : Nat) (out : List Int) (m : Nat) (hm : m < out.length) (h0 : out.getD m 0 % p = out.getD m 0) :
    ∀ k, (addRow p sq t x y a out k).getD m 0 = if a ^^^ m < k then (out.getD m 0 + term p sq t x y m a) % p else out.getD m 0 := by
  intro k
  induction k with
  | zero => rw [if_neg (by omega)]; simp [addRow]
  | succ k ih =>
    rw [addRow_succ]
    have hl : (addRow p sq t x y a out k).length = out.length := addRow_len _ _ _ _ _ _ _ _
    unfold addPair
    by_cases hk : a ^^^ k = m
    · have hk' := (xor_eq_iff a k m).1 hk
      have h1 : ¬ a ^^^ m < k := by omega
      have h2 : a ^^^ m < k + 1 := by omega
      rw [if_neg h1] at ih
      rw [if_pos (c := a ^^^ m < k + 1) h2]
      unfold term
      rw [← hk']
      by_cases hc : x.getD a 0 ≠ 0 ∧ y.getD k 0 ≠ 0 ∧ t a k = true
      · rw [if_pos hc, if_pos hc.2.2, getD_set, if_pos ⟨hk, by rw [hl, hk]; exact hm⟩, hk, ih]
      · rw [if_neg hc, ih]
        by_cases ht : t a k = true
        · rw [if_pos ht]
          have : x.getD a 0 * y.getD k 0 = 0 := by
            by_cases h1 : x.getD a 0 = 0
            · rw [h1, Int.zero_mul]
            · by_cases h2 : y.getD k 0 = 0
              · rw [h2, Int.mul_zero]
              · exact absurd ⟨h1, h2, ht⟩ hc
          rw [this, Int.zero_mul, Int.add_zero, h0]
        · rw [if_neg ht, Int.add_zero, h0]
    · have hk' : k ≠ a ^^^ m := fun e => hk ((xor_eq_iff a k m).2 e)
      have e : (if x.getD a 0 ≠ 0 ∧ y.getD k 0 ≠ 0 ∧ t a k = true then (addRow p sq t x y a out k).set (a ^^^ k) (((addRow p sq t x y a out k).getD (a ^^^ k) 0 + x.getD a 0 * y.getD k 0 * fac p sq a k) % p) else addRow p sq t x y a out k).getD m 0 = (addRow p sq t x y a out k).getD m 0 := by
        split
        · rw [getD_set, if_neg (fun h => hk h.1)]
        · rfl
      rw [e, ih]
      by_cases h1 : a ^^^ m < k
      · rw [if_pos h1, if_pos (by omega)]
      · rw [if_neg h1, if_neg (by omega)]
theorem addRows_getD (p : Int) (sq : List Int) (t : Nat → Nat → Bool) (x y : List Int) (n m : Nat) (hy : y.length = pw n) (hm : m < pw n) :
    ∀ k, k ≤ pw n → (addRows p sq t x y (List.replicate (pw n) 0) k).getD m 0 = sumTo k (term p sq t x y m) % p := by
  intro k
  induction k with
  | zero =>
    intro _
    rw [show addRows p sq t x y (List.replicate (pw n) 0) 0 = List.replicate (pw n) 0 from rfl, getD_of_lt 0 (by simpa using hm)]
    simp [sumTo]
  | succ k ih =>
    intro hk
    have ih := ih (by omega)
    have hl : (addRows p sq t x y (List.replicate (pw n) 0) k).length = pw n := by rw [addRows_len]; simp
    rw [addRows_succ, addRow_getD p sq t x y k _ m (by rw [hl]; exact hm) (by rw [ih, Int.emod_emod_of_dvd _ (Int.dvd_refl p)]), if_pos (by rw [hy]; exact xor_lt (by omega) hm), ih]
    exact sumTo_step p k _
theorem prodL_getD (p : Int) (sq : List Int) (t : Nat → Nat → Bool) (x y : List Int) (n m : Nat) (hx : x.length = pw n) (hy : y.length = pw n) (hm : m < pw n) :
    (prodL p sq t x y).getD m 0 = sumTo (pw n) (term p sq t x y m) % p := by
  unfold prodL
  rw [hx]
  exact addRows_getD p sq t x y n m hy hm _ (Nat.le_refl _)
theorem sumTo_zero {n : Nat} {f : Nat → Int} (h : ∀ i, i < n → f i = 0) : sumTo n f = 0 := by
  induction n with
  | zero => rfl
  | succ n ih => rw [sumTo_succ, ih (fun i hi => h i (by omega)), h n (by omega)]; rfl
theorem sumTo_one {n : Nat} {f : Nat → Int} (k : Nat) (hk : k < n) (h : ∀ i, i < n → i ≠ k → f i = 0) : sumTo n f = f k := by
  induction n with
  | zero => omega
  | succ n ih =>
    rw [sumTo_succ]
    by_cases e : k = n
    · subst e; rw [sumTo_zero (fun i hi => h i (by omega) (by omega)), Int.zero_add]
    · rw [ih (by omega) (fun i hi => h i (by omega)), h n (by omega) (by omega), Int.add_zero]
theorem pc_zero : pc 0 = 0 := by simp [pc]
theorem bit_zero (i : Nat) : bit 0 i = 0 := by simp [bit]
theorem fac_zero_left (p : Int) (sq : List Int) (b : Nat) : fac p sq 0 b = 1 := by
  have h1 : ∀ i, swaps 0 b i = 0 := by
    intro i
    induction i with
    | zero => rfl
    | succ i ih => simp [swaps, ih, pc_zero]
  have h2 : ∀ i, common p sq 0 b i = 1 := by
    intro i
    induction i with
    | zero => rfl
    | succ i ih => simp [common, ih, bit_zero]
  unfold fac
  rw [h1, h2]; rfl
theorem bladeL_getD (n m i : Nat) (hi : i < pw n) : (bladeL n m).getD i 0 = if m = i then 1 else 0 := by
  unfold bladeL
  rw [getD_set]
  by_cases h : m = i
  · subst h; rw [if_pos ⟨rfl, by simpa using hi⟩, if_pos rfl]
  · rw [if_neg (fun hh => h hh.1), if_neg h, getD_of_lt 0 (by simpa using hi)]; simp
/-- 1 times a multivector. -/
theorem one_mul (p : Int) (sq : List Int) (n : Nat) (xs : List Int) (hx : xs.length = pw n) (hn : NumsL p xs) : mulL p sq (bladeL n 0) xs = xs := by
  apply list_ext_getD 0 (by unfold mulL; rw [prodL_len, bladeL_len, hx])
  intro m hm
  have hm : m < pw n := by unfold mulL at hm; rwa [prodL_len, bladeL_len] at hm
  unfold mulL
  rw [prodL_getD p sq _ _ xs n m (bladeL_len n 0) hx hm, sumTo_one 0 (pw_pos n) (fun i hi h0 => by unfold term; rw [if_pos rfl, bladeL_getD n 0 i hi, if_neg (fun e => h0 e.symm), Int.zero_mul, Int.zero_mul])]
  unfold term
  rw [if_pos rfl, bladeL_getD n 0 0 (pw_pos n), if_pos rfl, Nat.zero_xor, fac_zero_left, Int.one_mul, Int.mul_one]
  obtain ⟨h1, h2⟩ := hn _ (getD_mem 0 (by rw [hx]; exact hm))
  exact Int.emod_eq_of_lt h1 h2
theorem mulL_len (p : Int) (sq xs ys : List Int) : (mulL p sq xs ys).length = xs.length := prodL_len _ _ _ _ _
theorem mulL_nums {p : Int} (hp : 0 < p) (sq xs ys : List Int) : NumsL p (mulL p sq xs ys) := prodL_nums sq _ _ _ hp
theorem timesL_two (p : Int) (sq : List Int) (n : Nat) (xs ys : List Int) (hx : xs.length = pw n) (hn : NumsL p xs) : timesL p sq n [xs, ys] = mulL p sq xs ys := by
  show mulL p sq (mulL p sq (bladeL n 0) xs) ys = _
  rw [one_mul p sq n xs hx hn]
end Go.Proofs.YticofgmmjecleaaGreatDoor
namespace Go.Proofs.YticofgmmjecleaaGreatDoor
open Go Go.RowKit
/-- Block R is a reader; as long as b is false, at the text t. -/
def SRd (R : Nat) (P : Int) (A : Option Addr) (n c : Nat) (t : By) (b : Bool) (w : World) : Prop := ∃ t' b', RdB w R P A n c t' b' ∧ (b = false → t' = t ∧ b' = false)
theorem SRd.below {R : Nat} {P : Int} {A : Option Addr} {n c : Nat} {t : By} {b : Bool} {w w' : World} (h : SRd R P A n c t b w) (f : Bool) (hb : Below w.heap.size w w') : SRd R P A n c t (b || f) w' := by
  obtain ⟨t', b', hk, hf⟩ := h
  exact ⟨t', b', hk.below hb hk.lt, fun e => hf (by cases b <;> simp_all)⟩
theorem SRd.rel {R : Nat} {P : Int} {A : Option Addr} {n c : Nat} {t : By} {w' : World} (b : Bool) {j k : Nat} (e : j = k) (h : ∃ t b, RdB w' R P A n c t b) : SRd R P A n c t (b || j == k) w' := by
  obtain ⟨t', b', hk⟩ := h
  exact ⟨t', b', hk, fun e2 => by subst e; simp at e2⟩
theorem only_at {C : List (List Nat)} {k0 : Nat} (h : ((List.range C.length).all fun j => j == k0 || (C.getD j []).isEmpty) = true) : ∀ j, j ≠ k0 → (C.getD j []).isEmpty = true := fun j hj => by
  by_cases hl : j < C.length
  · have := List.all_eq_true.1 h j (List.mem_range.2 hl)
    rw [Bool.or_eq_true, beq_iff_eq] at this
    exact this.resolve_left hj
  · rw [List.getD_eq_getElem?_getD, List.getElem?_eq_none (by omega)]; rfl
theorem StepR.eitherK {C : List (List Nat)} {Rel : World → World → Prop} {j : Nat} {w w' : World} {q : Prop} (h : StepR C Rel j w w') (k0 : Nat) (hC : ∀ j, j ≠ k0 → (C.getD j []).isEmpty = true) (h1 : Below w.heap.size w w' → q) (h2 : j = k0 → Rel w w' → q) : q := by
  by_cases e : j = k0
  · exact h.either h1 (h2 e)
  · unfold StepR at h
    rw [hC j e] at h
    exact h1 h
/-- What a part of the reader leaves, as a value: f makes the list out of what was read. -/
def VRk (R : Nat) (P : Int) (sq : List Int) (A : Option Addr) (n c : Nat) (m : Md) (t : By) (B : Nat) (f : List Int → List Int) : VP :=
  ⟨fun v w => ∃ (A' : Option Addr) (c' : Nat) (x : List Int) (t' : By) (b : Bool), v = .slice A' (pw n) c' ∧ RdB w R P A n c t' b ∧ MuL P n x ∧ Own w B 2 A' (pw n) c' (ints (f x)) ∧ t'.length ≤ t.length ∧ evE P sq n m t = (if b = true then none else some (x, t')),
   fun _ _ _ ⟨A', c', x, t', b, e, hk, hx, ho, hl, hev⟩ hb => ⟨A', c', x, t', b, e, hk.below hb hk.lt, hx, ho.below hb, hl, hev⟩⟩
/-- .. the slice of a new block of two lists. -/
def VRk2 (R : Nat) (P : Int) (sq : List Int) (A : Option Addr) (n c : Nat) (m : Md) (t : By) (B : Nat) (x1 : List Int) : VP :=
  ⟨fun v w => ∃ (A' : Option Addr) (x : List Int) (t' : By) (b : Bool), v = .slice A' 2 2 ∧ RdB w R P A n c t' b ∧ MuL P n x ∧ RdII w A' 2 [x1, x] ∧ t'.length ≤ t.length ∧ evE P sq n m t = (if b = true then none else some (x, t')),
   fun _ _ _ ⟨A', x, t', b, e, hk, hx, ho, hl, hev⟩ hb => ⟨A', x, t', b, e, hk.below hb hk.lt, hx, ho.below hb, hl, hev⟩⟩
set_option maxHeartbeats 12800000 in
set_option maxRecDepth 8000 in
theorem rfac_any (P : Int) (sq : List Int) (A : Option Addr) (n c : Nat) (t : By) (hp : 2 ≤ P) (hp2 : P ≤ 13) (hn : n ≤ 6) (ht : t.length ≤ 1048576)
    (hf : ∀ t' : By, t'.length < t.length → RdC 147 P sq A n c .fac t') (hat : RdC 170 P sq A n c .atom t) : RdC 147 P sq A n c .fac t := by
  intro R w he hA hr hk
  have hpn : pw n ≤ 64 := pw_le hn
  have HG := hk.lt
  cases hnx : nxt [45, 126] t with
  | none =>
    have hcall := next_none P A n c t [45, 126] false R w he.here.e (by decide) hk hnx
    have hcall2 := hat R w he hA hr hk
    have HN := Lib.hid (evE_fac_none (P := P) (sq := sq) (n := n) hnx)
    clear hf hat hnx
    go_enter Tryz.func147, Tryz.ntmps147
    go_wp2_with fail
    refine hcall.mono ?_
    rintro e w2 ⟨rfl, rfl⟩
    go_wp2_with fail
    refine hcall2.mono ?_
    rintro e w3 ⟨A3, c3, x3, t3, b3, rfl, hk3, hx3, hO3, hl3, hev3, hE3⟩
    go_wp2
    go_ret
    exact ⟨A3, c3, x3, t3, b3, rfl, hk3, hx3, hO3, hl3, by rw [HN.out]; exact hev3, hE3⟩
  | some q =>
    obtain ⟨d, t2⟩ := q
    have hcall := next_some P A n c t [45, 126] false R w d t2 he.here.e (by decide) hk hnx
    have hsg := nxt_sg hnx
    have hlt2 : t2.length < t.length := by rw [nxt_len hnx]; omega
    have HN := Lib.hid (evE_fac_some (P := P) (sq := sq) (n := n) hnx)
    clear hat hnx
    rcases hsg with rfl | rfl
    · go_enter Tryz.func147, Tryz.ntmps147
      go_wp2_with fail
      refine hcall.mono ?_
      rintro e w2 ⟨rfl, hk2, hE2⟩
      clear hcall
      obtain ⟨q0, q1, q2, q3⟩ := hk2.four
      go_wp2_with fail
      refine (field_any P A n c w2).mono ?_
      rintro e w3 ⟨rfl, hb3⟩
      have hk3 := hk2.below hb3 hk2.lt
      have hE3 := hE2.then hb3 (Nat.le_of_lt HG)
      clear q0 q1 q2 q3 hb3 hE2 hk2
      have hcall := hf t2 hlt2 R w3 (he.on hE3.b) hA (hr.ex hE3 hA) hk3
      go_wp2_with fail
      refine hcall.mono ?_
      rintro e w4 ⟨A4, c4, x4, t4, b4, rfl, hk4, hx4, hO4, hl4, hev4, hE4⟩
      have HEV := Lib.hid hev4
      have hE5 := hE3.trans hE4
      clear hcall hE4 hev4
      go_wp2_with fail
      refine (scaled_any P A4 (pw n) c4 (-1) x4 w4 hp hp2 (by omega) hO4.rd hx4.2 (by omega) (by omega)).mono ?_
      rintro e w5 ⟨A5, c5, rfl, hM⟩
      have hE6 := hE5.then hM.b (Nat.le_of_lt HG)
      have hk5 := hk4.below hM.b hk4.lt
      go_wp2
      go_ret
      refine ⟨A5, c5, scaleL P x4 (-1), t4, b4, rfl, hk5, ⟨(scaleL_len _ _ _).trans hx4.1, scaleL_nums (by omega) _ _⟩, hM.2.base hE5.size, by omega, ?_, hE6⟩
      rw [HN.out, HEV.out]
      cases b4 <;> rfl
    · go_enter Tryz.func147, Tryz.ntmps147
      go_wp2_with fail
      refine hcall.mono ?_
      rintro e w2 ⟨rfl, hk2, hE2⟩
      clear hcall
      go_wp2_with fail
      refine wp_obsK 8 (fun w w' => Ex R w w' ∧ ∃ t b, RdB w' R P A n c t b) [[], [0], [0, 1], [0, 1, 2], [], [4], [0, 1, 2, 3, 4, 5], [0, 1, 2, 3, 4, 5, 6]] [[], [], [], [], [], [99], [], []] (fun x => [VIs (.pointer (some ⟨R, 0, none⟩)), VIs (.pointer (some ⟨R, 0, none⟩)), VIs (.pointer (some ⟨R, 0, none⟩)), VIs (.agg #[.int .i64 P, .slice A n c]), VIs (.pointer (some ⟨R, 0, none⟩)), VRk R P sq A n c .fac t2 w.heap.size (fun x => x), VRk R P sq A n c .fac t2 w.heap.size (fun x => revL P x), VRk R P sq A n c .fac t2 w.heap.size (fun x => revL P x)]) 5 (fun b w' => SRd R P A n c t2 b w' ∧ Ex R w w') (by kernel_rfl) (by kernel_rfl) (fun x x' j hx => by
          rcases j with _ | _ | _ | _ | _ | _ | _ | _ | j
          · rfl
          · rfl
          · rfl
          · rfl
          · rfl
          · rfl
          · rfl
          · rfl
          · rfl)
        (weak_ofR [0, 1, 2, 3, 4] (by decide) (fun k hk x v w w' hp hr => by
          simp only [List.mem_cons, List.not_mem_nil, or_false] at hk
          rcases hk with rfl | rfl | rfl | rfl | rfl
          · exact hp
          · exact hp
          · exact hp
          · exact hp
          · exact hp)) (fun j b _ w' h hst => hst.eitherK 5 (only_at (by decide)) (fun hb => ⟨h.1.below _ hb, h.2.then hb (Nat.le_of_lt HG)⟩) (fun e hr => ⟨SRd.rel b e hr.2, h.2.trans hr.1⟩)) (⟨⟨t2, false, hk2.below (Below.refl _ _).drew hk2.lt, fun _ => ⟨rfl, rfl⟩⟩, hE2.then (Below.refl _ _).drew (Nat.le_of_lt HG)⟩) (fun x => ?_)
      refine obs_stepK (Eq.trans (by simp only [List.getElem?_toArray, List.getElem?_cons_zero]; exact rfl) rfl) rfl (fun b w' hb0 hS hV K hK => ?_) ?_
      · obtain ⟨⟨ts, bs, hkk, hbb⟩, hEE⟩ := hS; obtain ⟨q0, q1, q2, q3⟩ := hkk.four
        go_simp
        exact hK.out _ _ _ rfl rfl rfl (Below.refl _ _)
      simp only [List.setIfInBounds_toArray, List.set_cons_zero, List.set_cons_succ]
      refine obs_stepK (Eq.trans (by simp only [List.getElem?_toArray, List.getElem?_cons_succ, List.getElem?_cons_zero]; exact rfl) rfl) rfl (fun b w' hb0 hS hV K hK => ?_) ?_
      · have e0 : x 0 = (.pointer (some ⟨R, 0, none⟩)) := hV 0 (by decide)
        obtain ⟨⟨ts, bs, hkk, hbb⟩, hEE⟩ := hS; obtain ⟨q0, q1, q2, q3⟩ := hkk.four
        go_simp
        exact hK.out _ _ _ rfl rfl rfl (Below.refl _ _)
      simp only [List.setIfInBounds_toArray, List.set_cons_zero, List.set_cons_succ]
      refine obs_stepK (Eq.trans (by simp only [List.getElem?_toArray, List.getElem?_cons_succ, List.getElem?_cons_zero]; exact rfl) rfl) rfl (fun b w' hb0 hS hV K hK => ?_) ?_
      · have e0 : x 0 = (.pointer (some ⟨R, 0, none⟩)) := hV 0 (by decide)
        have e1 : x 1 = (.pointer (some ⟨R, 0, none⟩)) := hV 1 (by decide)
        obtain ⟨⟨ts, bs, hkk, hbb⟩, hEE⟩ := hS; obtain ⟨q0, q1, q2, q3⟩ := hkk.four
        go_simp
        exact hK.out _ _ _ rfl rfl rfl (Below.refl _ _)
      simp only [List.setIfInBounds_toArray, List.set_cons_zero, List.set_cons_succ]
      refine obs_stepK (Eq.trans (by simp only [List.getElem?_toArray, List.getElem?_cons_succ, List.getElem?_cons_zero]; exact rfl) rfl) rfl (fun b w' hb0 hS hV K hK => ?_) ?_
      · have e0 : x 0 = (.pointer (some ⟨R, 0, none⟩)) := hV 0 (by decide)
        have e1 : x 1 = (.pointer (some ⟨R, 0, none⟩)) := hV 1 (by decide)
        have e2 : x 2 = (.pointer (some ⟨R, 0, none⟩)) := hV 2 (by decide)
        obtain ⟨⟨ts, bs, hkk, hbb⟩, hEE⟩ := hS; obtain ⟨q0, q1, q2, q3⟩ := hkk.four
        go_simp
        exact hK.out _ _ _ rfl rfl rfl (Below.refl _ _)
      simp only [List.setIfInBounds_toArray, List.set_cons_zero, List.set_cons_succ]
      refine obs_stepK (Eq.trans (by simp only [List.getElem?_toArray, List.getElem?_cons_succ, List.getElem?_cons_zero]; exact rfl) rfl) rfl (fun b w' hb0 hS hV K hK => ?_) ?_
      · obtain ⟨⟨ts, bs, hkk, hbb⟩, hEE⟩ := hS; obtain ⟨q0, q1, q2, q3⟩ := hkk.four
        go_simp
        exact hK.out _ _ _ rfl rfl rfl (Below.refl _ _)
      simp only [List.setIfInBounds_toArray, List.set_cons_zero, List.set_cons_succ]
      refine obs_stepK (Eq.trans (by simp only [List.getElem?_toArray, List.getElem?_cons_succ, List.getElem?_cons_zero]; exact rfl) rfl) rfl (fun b w' hb0 hS hV K hK => ?_) ?_
      · have e4 : x 4 = (.pointer (some ⟨R, 0, none⟩)) := hV 4 (by decide)
        obtain ⟨⟨ts, bs, hkk, hbb⟩, hEE⟩ := hS; obtain ⟨q0, q1, q2, q3⟩ := hkk.four
        obtain ⟨e8, e9⟩ := hbb (hb0 rfl)
        rw [e8, e9] at hkk
        go_simp
        refine (hf t2 hlt2 R w' (he.on hEE.b) hA (hr.ex hEE hA) hkk).mono ?_
        rintro e v1 ⟨A8, c8, x8, t8, b8, rfl, hk8, hx8, hO8, hl8, hev8, hE8⟩
        exact hK.out _ _ _ rfl rfl ⟨A8, c8, x8, t8, b8, rfl, hk8, hx8, hO8.base hEE.size, hl8, hev8⟩ (StepR.rel rfl ⟨hE8, t8, b8, hk8⟩)
      simp only [List.setIfInBounds_toArray, List.set_cons_zero, List.set_cons_succ]
      refine obs_stepK (Eq.trans (by simp only [List.getElem?_toArray, List.getElem?_cons_succ, List.getElem?_cons_zero]; exact rfl) rfl) rfl (fun b w' hb0 hS hV K hK => ?_) ?_
      · have e0 : x 0 = (.pointer (some ⟨R, 0, none⟩)) := hV 0 (by decide)
        have e1 : x 1 = (.pointer (some ⟨R, 0, none⟩)) := hV 1 (by decide)
        have e2 : x 2 = (.pointer (some ⟨R, 0, none⟩)) := hV 2 (by decide)
        have e3 : x 3 = (.agg #[.int .i64 P, .slice A n c]) := hV 3 (by decide)
        have e4 : x 4 = (.pointer (some ⟨R, 0, none⟩)) := hV 4 (by decide)
        obtain ⟨A5, c5, X5, T5, B5, e5, k5, m5, o5, l5, v5⟩ := hV 5 (by decide)
        obtain ⟨⟨ts, bs, hkk, hbb⟩, hEE⟩ := hS; obtain ⟨q0, q1, q2, q3⟩ := hkk.four
        go_simp
        refine (reverse_any P A n c A5 (pw n) c5 X5 w' hp hp2 (by omega) o5.rd m5.2).mono ?_
        rintro e v1 ⟨A9, c9, rfl, hM⟩
        exact hK.out _ _ _ rfl rfl ⟨A9, c9, X5, T5, B5, rfl, k5.below hM.b k5.lt, m5, hM.2.base hEE.size, l5, v5⟩ hM.b
      simp only [List.setIfInBounds_toArray, List.set_cons_zero, List.set_cons_succ]
      refine obs_stepK (Eq.trans (by simp only [List.getElem?_toArray, List.getElem?_cons_succ, List.getElem?_cons_zero]; exact rfl) rfl) rfl (fun b w' hb0 hS hV K hK => ?_) ?_
      · have e0 : x 0 = (.pointer (some ⟨R, 0, none⟩)) := hV 0 (by decide)
        have e1 : x 1 = (.pointer (some ⟨R, 0, none⟩)) := hV 1 (by decide)
        have e2 : x 2 = (.pointer (some ⟨R, 0, none⟩)) := hV 2 (by decide)
        have e3 : x 3 = (.agg #[.int .i64 P, .slice A n c]) := hV 3 (by decide)
        have e4 : x 4 = (.pointer (some ⟨R, 0, none⟩)) := hV 4 (by decide)
        obtain ⟨A5, c5, X5, T5, B5, e5, k5, m5, o5, l5, v5⟩ := hV 5 (by decide)
        obtain ⟨A6, c6, X6, T6, B6, e6, k6, m6, o6, l6, v6⟩ := hV 6 (by decide)
        obtain ⟨⟨ts, bs, hkk, hbb⟩, hEE⟩ := hS; obtain ⟨q0, q1, q2, q3⟩ := hkk.four
        go_simp
        exact hK.out _ _ _ rfl rfl ⟨A6, c6, X6, T6, B6, rfl, k6, m6, o6, l6, v6⟩ (Below.refl _ _)
      simp only [List.setIfInBounds_toArray, List.set_cons_zero, List.set_cons_succ]
      refine fun w' bb hS hV => ?_
      have e0 : x 0 = (.pointer (some ⟨R, 0, none⟩)) := hV 0 (by decide)
      have e1 : x 1 = (.pointer (some ⟨R, 0, none⟩)) := hV 1 (by decide)
      have e2 : x 2 = (.pointer (some ⟨R, 0, none⟩)) := hV 2 (by decide)
      have e3 : x 3 = (.agg #[.int .i64 P, .slice A n c]) := hV 3 (by decide)
      have e4 : x 4 = (.pointer (some ⟨R, 0, none⟩)) := hV 4 (by decide)
      obtain ⟨A5, c5, X5, T5, B5, e5, k5, m5, o5, l5, v5⟩ := hV 5 (by decide)
      obtain ⟨A6, c6, X6, T6, B6, e6, k6, m6, o6, l6, v6⟩ := hV 6 (by decide)
      obtain ⟨A7, c7, X7, T7, B7, e7, k7, m7, o7, l7, v7⟩ := hV 7 (by decide)
      simp only [e0, e1, e2, e3, e4, e5, e6, e7]
      clear e0 e1 e2 e3 e4 e5 e6 e7
      refine wpAny_done (by kernel_rfl) ?_ _
      have hEE := hS.2
      have HEV := Lib.hid v7
      clear v7 hS hV
      go_wp2
      go_ret
      refine ⟨A7, c7, revL P X7, T7, B7, rfl, k7, ⟨(sgnL_len _ _ _).trans m7.1, sgnL_nums (by omega) _ m7.2⟩, o7, by omega, ?_, hEE⟩
      rw [HN.out, HEV.out]
      cases B7 <;> rfl
set_option maxHeartbeats 25600000 in
set_option maxRecDepth 8000 in
theorem rprod_any (P : Int) (sq : List Int) (A : Option Addr) (n c : Nat) (t : By) (hp : 2 ≤ P) (hp2 : P ≤ 13) (hn : n ≤ 6) (ht : t.length ≤ 1048576) (hs : NumsL P sq)
    (hf : ∀ t' : By, t'.length ≤ t.length → RdC 147 P sq A n c .fac t') : RdC 121 P sq A n c .prod t := by
  intro R w he hA hr hk
  have hpn : pw n ≤ 64 := pw_le hn
  have HG := hk.lt
  have h0 := hf t (Nat.le_refl _) R w he hA hr hk
  obtain ⟨V, hV⟩ : ∃ V, V = evE P sq n .prod t := ⟨_, rfl⟩
  have HV := Lib.hid hV
  clear hV
  go_enter Tryz.func121, Tryz.ntmps121
  go_wp2_with fail
  refine h0.mono ?_
  rintro e w1 ⟨A1, c1, x1, t1, b1, rfl, hk1, hx1, hO1, hl1, hev1, hE1⟩
  have hs1 : V = if b1 = true then none else evE P sq n (.prodL x1) t1 := by
    rw [HV.out, evE_prod_eq, hev1]; cases b1 <;> rfl
  clear h0 hev1
  go_wp2
  go_loopw [3] (fun out wr => ∃ (A1 : Option Addr) (c1 : Nat) (x1 : List Int) (t1 : By) (b1 : Bool), out = .slice A1 (pw n) c1 ∧ RdB wr R P A n c t1 b1 ∧ MuL P n x1 ∧ Own wr w.heap.size 2 A1 (pw n) c1 (ints x1) ∧ t1.length ≤ t.length ∧ V = (if b1 = true then none else evE P sq n (.prodL x1) t1) ∧ Ex R w wr) (fun _ wr => match wr.cell? ⟨R, 2, none⟩ with | some (.string s) => s.size | _ => 0)
  case atStart => exact ⟨A1, c1, x1, t1, b1, rfl, hk1, hx1, hO1, hl1, hs1, hE1⟩
  case round =>
    clear hk1 hx1 hO1 hl1 hs1 hE1
    obtain ⟨A1, c1, x1, t1, b1, rfl, hk1, hx1, hO1, hl1, hs1, hE1⟩ := hrel
    have q3 := hk1.cell 3
    have HS := Lib.hid hs1
    clear hs1
    cases b1 with
    | true =>
      go_wp2
      go_ret
      exact ⟨A1, c1, x1, t1, true, rfl, hk1, hx1, hO1, hl1, HV.out.symm.trans HS.out, hE1⟩
    | false =>
      have heB := he.on hE1.b
      cases hnx : nxt [42, 94, 46] t1 with
      | none =>
        have hcall := next_none P A n c t1 [42, 94, 46] false R wr heB.here.e (by decide) hk1 hnx
        go_wp2_with (go_at_call 122; refine hcall.mono ?_; rintro e w2 ⟨rfl, rfl⟩)
        go_ret
        exact ⟨A1, c1, x1, t1, false, rfl, hk1, hx1, hO1, hl1, by rw [← HV.out, HS.out]; exact evE_prodL_none x1 hnx, hE1⟩
      | some q =>
        obtain ⟨d, t2⟩ := q
        have hcall := next_some P A n c t1 [42, 94, 46] false R wr d t2 heB.here.e (by decide) hk1 hnx
        have hpm := nxt_op hnx
        have hln := nxt_len hnx
        have hlt2 : t2.length ≤ t.length := by omega
        have HS2 : Hid (V = (evE P sq n .fac t2).bind fun r => evE P sq n (.prodL (opL P sq d x1 r.1)) r.2) := Lib.hid (by
          rw [HS.out]
          exact evE_prodL_some x1 hnx)
        have hsz : (match wr.cell? ⟨R, 2, none⟩ with | some (.string s) => s.size | _ => 0) = t1.length := by rw [hk1.cell 2]; exact bs_len t1
        rw [hsz]
        clear HS hnx hsz heB
        have HMU := Lib.hid hx1
        clear hx1
        rcases hpm with rfl | rfl | rfl
        · go_wp2_with fail
          refine hcall.mono ?_
          rintro e w2 ⟨rfl, hk2, hE2b⟩
          have hO2 := hO1.ex hE2b hk1 (by decide)
          have hE2 := hE1.trans hE2b
          clear hcall hO1 hE1 hE2b hk1 q3
          go_wp2_with fail
          refine wp_obsK 9 (fun w w' => Ex R w w' ∧ ∃ t b, RdB w' R P A n c t b) [[], [0], [0, 1], [0, 1, 2], [], [], [5], [4, 5, 6], [0, 1, 2, 3, 4, 5, 6, 7], [0, 1, 2, 3, 4, 5, 6, 7, 8]] [[], [], [], [], [], [], [99], [], []] (fun x => [VIs (.pointer (some ⟨R, 0, none⟩)), VIs (.pointer (some ⟨R, 0, none⟩)), VIs (.pointer (some ⟨R, 0, none⟩)), VIs (.agg #[.int .i64 P, .slice A n c]), VIs (.slice A1 (pw n) c1), VIs (.pointer (some ⟨R, 0, none⟩)), VRk R P sq A n c .fac t2 w.heap.size (fun x => x), VRk2 R P sq A n c .fac t2 w.heap.size x1, VRk R P sq A n c .fac t2 w.heap.size (fun x => mulL P sq x1 x)]) 6 (fun b w' => SRd R P A n c t2 b w' ∧ Ex R w w' ∧ Own w' w.heap.size 2 A1 (pw n) c1 (ints x1)) (by kernel_rfl) (by kernel_rfl) (fun x x' j hx => by
              rcases j with _ | _ | _ | _ | _ | _ | _ | _ | _ | j
              · rfl
              · rfl
              · rfl
              · rfl
              · rfl
              · rfl
              · rfl
              · rfl
              · rfl
              · rfl)
            (weak_ofR [0, 1, 2, 3, 4, 5] (by decide) (fun k hk x v w w' hp hr => by
              simp only [List.mem_cons, List.not_mem_nil, or_false] at hk
              rcases hk with rfl | rfl | rfl | rfl | rfl | rfl
              · exact hp
              · exact hp
              · exact hp
              · exact hp
              · exact hp
              · exact hp)) (fun j b _ w' h hst => hst.eitherK 6 (only_at (by decide)) (fun hb => ⟨h.1.below _ hb, h.2.1.then hb (Nat.le_of_lt HG), h.2.2.below hb⟩) (fun e hr => ⟨SRd.rel b e hr.2, h.2.1.trans hr.1, by obtain ⟨⟨t5, b5, k5, _⟩, _, o5⟩ := h; exact o5.ex hr.1 k5 (by decide)⟩)) (⟨⟨t2, false, hk2.below (Below.refl _ _).drew hk2.lt, fun _ => ⟨rfl, rfl⟩⟩, hE2.then (Below.refl _ _).drew (Nat.le_of_lt HG), hO2.below (Below.refl _ _).drew⟩) (fun x => ?_)
          refine obs_stepK (Eq.trans (by simp only [List.getElem?_toArray, List.getElem?_cons_zero]; exact rfl) rfl) rfl (fun b w' hb0 hS hV K hK => ?_) ?_
          · obtain ⟨⟨ts, bs, hkk, hbb⟩, hEE, hOO⟩ := hS; obtain ⟨q0, q1, q2, q3⟩ := hkk.four
            go_simp
            exact hK.out _ _ _ rfl rfl rfl (Below.refl _ _)
          simp only [List.setIfInBounds_toArray, List.set_cons_zero, List.set_cons_succ]
          refine obs_stepK (Eq.trans (by simp only [List.getElem?_toArray, List.getElem?_cons_succ, List.getElem?_cons_zero]; exact rfl) rfl) rfl (fun b w' hb0 hS hV K hK => ?_) ?_
          · have e0 : x 0 = (.pointer (some ⟨R, 0, none⟩)) := hV 0 (by decide)
            obtain ⟨⟨ts, bs, hkk, hbb⟩, hEE, hOO⟩ := hS; obtain ⟨q0, q1, q2, q3⟩ := hkk.four
            go_simp
            exact hK.out _ _ _ rfl rfl rfl (Below.refl _ _)
          simp only [List.setIfInBounds_toArray, List.set_cons_zero, List.set_cons_succ]
          refine obs_stepK (Eq.trans (by simp only [List.getElem?_toArray, List.getElem?_cons_succ, List.getElem?_cons_zero]; exact rfl) rfl) rfl (fun b w' hb0 hS hV K hK => ?_) ?_
          · have e0 : x 0 = (.pointer (some ⟨R, 0, none⟩)) := hV 0 (by decide)
            have e1 : x 1 = (.pointer (some ⟨R, 0, none⟩)) := hV 1 (by decide)
            obtain ⟨⟨ts, bs, hkk, hbb⟩, hEE, hOO⟩ := hS; obtain ⟨q0, q1, q2, q3⟩ := hkk.four
            go_simp
            exact hK.out _ _ _ rfl rfl rfl (Below.refl _ _)
          simp only [List.setIfInBounds_toArray, List.set_cons_zero, List.set_cons_succ]
          refine obs_stepK (Eq.trans (by simp only [List.getElem?_toArray, List.getElem?_cons_succ, List.getElem?_cons_zero]; exact rfl) rfl) rfl (fun b w' hb0 hS hV K hK => ?_) ?_
          · have e0 : x 0 = (.pointer (some ⟨R, 0, none⟩)) := hV 0 (by decide)
            have e1 : x 1 = (.pointer (some ⟨R, 0, none⟩)) := hV 1 (by decide)
            have e2 : x 2 = (.pointer (some ⟨R, 0, none⟩)) := hV 2 (by decide)
            obtain ⟨⟨ts, bs, hkk, hbb⟩, hEE, hOO⟩ := hS; obtain ⟨q0, q1, q2, q3⟩ := hkk.four
            go_simp
            exact hK.out _ _ _ rfl rfl rfl (Below.refl _ _)
          simp only [List.setIfInBounds_toArray, List.set_cons_zero, List.set_cons_succ]
          refine obs_stepK (Eq.trans (by simp only [List.getElem?_toArray, List.getElem?_cons_succ, List.getElem?_cons_zero]; exact rfl) rfl) rfl (fun b w' hb0 hS hV K hK => ?_) ?_
          · obtain ⟨⟨ts, bs, hkk, hbb⟩, hEE, hOO⟩ := hS; obtain ⟨q0, q1, q2, q3⟩ := hkk.four
            go_simp
            exact hK.out _ _ _ rfl rfl rfl (Below.refl _ _)
          simp only [List.setIfInBounds_toArray, List.set_cons_zero, List.set_cons_succ]
          refine obs_stepK (Eq.trans (by simp only [List.getElem?_toArray, List.getElem?_cons_succ, List.getElem?_cons_zero]; exact rfl) rfl) rfl (fun b w' hb0 hS hV K hK => ?_) ?_
          · obtain ⟨⟨ts, bs, hkk, hbb⟩, hEE, hOO⟩ := hS; obtain ⟨q0, q1, q2, q3⟩ := hkk.four
            go_simp
            exact hK.out _ _ _ rfl rfl rfl (Below.refl _ _)
          simp only [List.setIfInBounds_toArray, List.set_cons_zero, List.set_cons_succ]
          refine obs_stepK (Eq.trans (by simp only [List.getElem?_toArray, List.getElem?_cons_succ, List.getElem?_cons_zero]; exact rfl) rfl) rfl (fun b w' hb0 hS hV K hK => ?_) ?_
          · have e5 : x 5 = (.pointer (some ⟨R, 0, none⟩)) := hV 5 (by decide)
            obtain ⟨⟨ts, bs, hkk, hbb⟩, hEE, hOO⟩ := hS; obtain ⟨q0, q1, q2, q3⟩ := hkk.four
            obtain ⟨e8, e9⟩ := hbb (hb0 rfl)
            rw [e8, e9] at hkk
            go_simp
            refine (hf t2 hlt2 R w' (he.on hEE.b) hA (hr.ex hEE hA) hkk).mono ?_
            rintro e v1 ⟨A8, c8, x8, t8, b8, rfl, hk8, hx8, hO8, hl8, hev8, hE8⟩
            exact hK.out _ _ _ rfl rfl ⟨A8, c8, x8, t8, b8, rfl, hk8, hx8, hO8.base hEE.size, hl8, hev8⟩ (StepR.rel rfl ⟨hE8, t8, b8, hk8⟩)
          simp only [List.setIfInBounds_toArray, List.set_cons_zero, List.set_cons_succ]
          refine obs_stepK (Eq.trans (by simp only [List.getElem?_toArray, List.getElem?_cons_succ, List.getElem?_cons_zero]; exact rfl) rfl) rfl (fun b w' hb0 hS hV K hK => ?_) ?_
          · have e4 : x 4 = (.slice A1 (pw n) c1) := hV 4 (by decide)
            have e5 : x 5 = (.pointer (some ⟨R, 0, none⟩)) := hV 5 (by decide)
            obtain ⟨A6, c6, X6, T6, B6, e6, k6, m6, o6, l6, v6⟩ := hV 6 (by decide)
            obtain ⟨⟨ts, bs, hkk, hbb⟩, hEE, hOO⟩ := hS; obtain ⟨q0, q1, q2, q3⟩ := hkk.four
            go_simp
            have hbw : Below w'.heap.size w' (w'.alloc (.cells #[.slice A1 (pw n) c1, .slice A6 (pw n) c6] 22)) := (Below.refl _ _).alloc (Nat.le_refl _) _
            exact hK.out _ _ _ rfl rfl ⟨_, X6, T6, B6, rfl, k6.below hbw k6.lt, m6, rdII_two (Blk.new w' _ _) (hOO.rd.below hbw) (o6.rd.below hbw) hOO.cap o6.cap, l6, v6⟩ hbw
          simp only [List.setIfInBounds_toArray, List.set_cons_zero, List.set_cons_succ]
          refine obs_stepK (Eq.trans (by simp only [List.getElem?_toArray, List.getElem?_cons_succ, List.getElem?_cons_zero]; exact rfl) rfl) rfl (fun b w' hb0 hS hV K hK => ?_) ?_
          · have e0 : x 0 = (.pointer (some ⟨R, 0, none⟩)) := hV 0 (by decide)
            have e1 : x 1 = (.pointer (some ⟨R, 0, none⟩)) := hV 1 (by decide)
            have e2 : x 2 = (.pointer (some ⟨R, 0, none⟩)) := hV 2 (by decide)
            have e3 : x 3 = (.agg #[.int .i64 P, .slice A n c]) := hV 3 (by decide)
            have e4 : x 4 = (.slice A1 (pw n) c1) := hV 4 (by decide)
            have e5 : x 5 = (.pointer (some ⟨R, 0, none⟩)) := hV 5 (by decide)
            obtain ⟨A6, c6, X6, T6, B6, e6, k6, m6, o6, l6, v6⟩ := hV 6 (by decide)
            obtain ⟨A7, X7, T7, B7, e7, k7, m7, o7, l7, v7⟩ := hV 7 (by decide)
            obtain ⟨⟨ts, bs, hkk, hbb⟩, hEE, hOO⟩ := hS; obtain ⟨q0, q1, q2, q3⟩ := hkk.four
            go_simp
            refine (times_any P A n c sq A7 2 2 [x1, X7] w' hp hp2 hn (by omega) (hr.ex hEE hA) hs o7 (fun y hy => by rcases List.mem_cons.1 hy with h | h; exact h ▸ ⟨HMU.out.2, HMU.out.1⟩; rw [List.mem_singleton.1 h]; exact ⟨m7.2, m7.1⟩)).mono ?_
            rintro e v1 ⟨A9, c9, rfl, hM⟩
            rw [timesL_two P sq n x1 X7 HMU.out.1 HMU.out.2] at hM
            exact hK.out _ _ _ rfl rfl ⟨A9, c9, X7, T7, B7, rfl, k7.below hM.b k7.lt, m7, hM.2.base hEE.size, l7, v7⟩ hM.b
          simp only [List.setIfInBounds_toArray, List.set_cons_zero, List.set_cons_succ]
          refine fun w' bb hS hV => ?_
          have e0 : x 0 = (.pointer (some ⟨R, 0, none⟩)) := hV 0 (by decide)
          have e1 : x 1 = (.pointer (some ⟨R, 0, none⟩)) := hV 1 (by decide)
          have e2 : x 2 = (.pointer (some ⟨R, 0, none⟩)) := hV 2 (by decide)
          have e3 : x 3 = (.agg #[.int .i64 P, .slice A n c]) := hV 3 (by decide)
          have e4 : x 4 = (.slice A1 (pw n) c1) := hV 4 (by decide)
          have e5 : x 5 = (.pointer (some ⟨R, 0, none⟩)) := hV 5 (by decide)
          obtain ⟨A6, c6, X6, T6, B6, e6, k6, m6, o6, l6, v6⟩ := hV 6 (by decide)
          obtain ⟨A7, X7, T7, B7, e7, k7, m7, o7, l7, v7⟩ := hV 7 (by decide)
          obtain ⟨A8, c8, X8, T8, B8, e8, k8, m8, o8, l8, v8⟩ := hV 8 (by decide)
          simp only [e0, e1, e2, e3, e4, e5, e6, e7, e8]
          clear e0 e1 e2 e3 e4 e5 e6 e7 e8
          refine any_one (j := 9) (by kernel_rfl) (Eq.trans (by simp only [List.getElem?_toArray, List.getElem?_cons_succ, List.getElem?_cons_zero]; exact rfl) rfl) (fun K hK => ?_)
          go_simp
          refine hK.out _ _ (wpAny_done (by kernel_rfl) ?_ _)
          have hEE := hS.2.1
          have HEV := Lib.hid v8
          clear v8 hS hV
          go_wp2
          go_roundw
          case rel =>
            refine ⟨A8, c8, mulL P sq x1 X8, T8, B8, rfl, k8, ⟨(mulL_len _ _ _ _).trans HMU.out.1, mulL_nums (by omega) _ _ _⟩, o8, by omega, ?_, hEE⟩
            rw [HS2.out, HEV.out]
            cases B8 <;> rfl
          case measure =>
            rw [k8.cell 2]
            show (ByteArray.mk T8.toArray).size < _
            rw [bs_len]; omega
        · go_wp2_with fail
          refine hcall.mono ?_
          rintro e w2 ⟨rfl, hk2, hE2b⟩
          have hO2 := hO1.ex hE2b hk1 (by decide)
          have hE2 := hE1.trans hE2b
          clear hcall hO1 hE1 hE2b hk1 q3
          go_wp2_with fail
          refine wp_obsK 8 (fun w w' => Ex R w w' ∧ ∃ t b, RdB w' R P A n c t b) [[], [0], [0, 1], [0, 1, 2], [], [], [5], [0, 1, 2, 3, 4, 5, 6], [0, 1, 2, 3, 4, 5, 6, 7]] [[], [], [], [], [], [], [99], []] (fun x => [VIs (.pointer (some ⟨R, 0, none⟩)), VIs (.pointer (some ⟨R, 0, none⟩)), VIs (.pointer (some ⟨R, 0, none⟩)), VIs (.agg #[.int .i64 P, .slice A n c]), VIs (.slice A1 (pw n) c1), VIs (.pointer (some ⟨R, 0, none⟩)), VRk R P sq A n c .fac t2 w.heap.size (fun x => x), VRk R P sq A n c .fac t2 w.heap.size (fun x => wedgeL P sq x1 x)]) 6 (fun b w' => SRd R P A n c t2 b w' ∧ Ex R w w' ∧ Own w' w.heap.size 2 A1 (pw n) c1 (ints x1)) (by kernel_rfl) (by kernel_rfl) (fun x x' j hx => by
              rcases j with _ | _ | _ | _ | _ | _ | _ | _ | j
              · rfl
              · rfl
              · rfl
              · rfl
              · rfl
              · rfl
              · rfl
              · rfl
              · rfl)
            (weak_ofR [0, 1, 2, 3, 4, 5] (by decide) (fun k hk x v w w' hp hr => by
              simp only [List.mem_cons, List.not_mem_nil, or_false] at hk
              rcases hk with rfl | rfl | rfl | rfl | rfl | rfl
              · exact hp
              · exact hp
              · exact hp
              · exact hp
              · exact hp
              · exact hp)) (fun j b _ w' h hst => hst.eitherK 6 (only_at (by decide)) (fun hb => ⟨h.1.below _ hb, h.2.1.then hb (Nat.le_of_lt HG), h.2.2.below hb⟩) (fun e hr => ⟨SRd.rel b e hr.2, h.2.1.trans hr.1, by obtain ⟨⟨t5, b5, k5, _⟩, _, o5⟩ := h; exact o5.ex hr.1 k5 (by decide)⟩)) (⟨⟨t2, false, hk2.below (Below.refl _ _).drew hk2.lt, fun _ => ⟨rfl, rfl⟩⟩, hE2.then (Below.refl _ _).drew (Nat.le_of_lt HG), hO2.below (Below.refl _ _).drew⟩) (fun x => ?_)
          refine obs_stepK (Eq.trans (by simp only [List.getElem?_toArray, List.getElem?_cons_zero]; exact rfl) rfl) rfl (fun b w' hb0 hS hV K hK => ?_) ?_
          · obtain ⟨⟨ts, bs, hkk, hbb⟩, hEE, hOO⟩ := hS; obtain ⟨q0, q1, q2, q3⟩ := hkk.four
            go_simp
            exact hK.out _ _ _ rfl rfl rfl (Below.refl _ _)
          simp only [List.setIfInBounds_toArray, List.set_cons_zero, List.set_cons_succ]
          refine obs_stepK (Eq.trans (by simp only [List.getElem?_toArray, List.getElem?_cons_succ, List.getElem?_cons_zero]; exact rfl) rfl) rfl (fun b w' hb0 hS hV K hK => ?_) ?_
          · have e0 : x 0 = (.pointer (some ⟨R, 0, none⟩)) := hV 0 (by decide)
            obtain ⟨⟨ts, bs, hkk, hbb⟩, hEE, hOO⟩ := hS; obtain ⟨q0, q1, q2, q3⟩ := hkk.four
            go_simp
            exact hK.out _ _ _ rfl rfl rfl (Below.refl _ _)
          simp only [List.setIfInBounds_toArray, List.set_cons_zero, List.set_cons_succ]
          refine obs_stepK (Eq.trans (by simp only [List.getElem?_toArray, List.getElem?_cons_succ, List.getElem?_cons_zero]; exact rfl) rfl) rfl (fun b w' hb0 hS hV K hK => ?_) ?_
          · have e0 : x 0 = (.pointer (some ⟨R, 0, none⟩)) := hV 0 (by decide)
            have e1 : x 1 = (.pointer (some ⟨R, 0, none⟩)) := hV 1 (by decide)
            obtain ⟨⟨ts, bs, hkk, hbb⟩, hEE, hOO⟩ := hS; obtain ⟨q0, q1, q2, q3⟩ := hkk.four
            go_simp
            exact hK.out _ _ _ rfl rfl rfl (Below.refl _ _)
          simp only [List.setIfInBounds_toArray, List.set_cons_zero, List.set_cons_succ]
          refine obs_stepK (Eq.trans (by simp only [List.getElem?_toArray, List.getElem?_cons_succ, List.getElem?_cons_zero]; exact rfl) rfl) rfl (fun b w' hb0 hS hV K hK => ?_) ?_
          · have e0 : x 0 = (.pointer (some ⟨R, 0, none⟩)) := hV 0 (by decide)
            have e1 : x 1 = (.pointer (some ⟨R, 0, none⟩)) := hV 1 (by decide)
            have e2 : x 2 = (.pointer (some ⟨R, 0, none⟩)) := hV 2 (by decide)
            obtain ⟨⟨ts, bs, hkk, hbb⟩, hEE, hOO⟩ := hS; obtain ⟨q0, q1, q2, q3⟩ := hkk.four
            go_simp
            exact hK.out _ _ _ rfl rfl rfl (Below.refl _ _)
          simp only [List.setIfInBounds_toArray, List.set_cons_zero, List.set_cons_succ]
          refine obs_stepK (Eq.trans (by simp only [List.getElem?_toArray, List.getElem?_cons_succ, List.getElem?_cons_zero]; exact rfl) rfl) rfl (fun b w' hb0 hS hV K hK => ?_) ?_
          · obtain ⟨⟨ts, bs, hkk, hbb⟩, hEE, hOO⟩ := hS; obtain ⟨q0, q1, q2, q3⟩ := hkk.four
            go_simp
            exact hK.out _ _ _ rfl rfl rfl (Below.refl _ _)
          simp only [List.setIfInBounds_toArray, List.set_cons_zero, List.set_cons_succ]
          refine obs_stepK (Eq.trans (by simp only [List.getElem?_toArray, List.getElem?_cons_succ, List.getElem?_cons_zero]; exact rfl) rfl) rfl (fun b w' hb0 hS hV K hK => ?_) ?_
          · obtain ⟨⟨ts, bs, hkk, hbb⟩, hEE, hOO⟩ := hS; obtain ⟨q0, q1, q2, q3⟩ := hkk.four
            go_simp
            exact hK.out _ _ _ rfl rfl rfl (Below.refl _ _)
          simp only [List.setIfInBounds_toArray, List.set_cons_zero, List.set_cons_succ]
          refine obs_stepK (Eq.trans (by simp only [List.getElem?_toArray, List.getElem?_cons_succ, List.getElem?_cons_zero]; exact rfl) rfl) rfl (fun b w' hb0 hS hV K hK => ?_) ?_
          · have e5 : x 5 = (.pointer (some ⟨R, 0, none⟩)) := hV 5 (by decide)
            obtain ⟨⟨ts, bs, hkk, hbb⟩, hEE, hOO⟩ := hS; obtain ⟨q0, q1, q2, q3⟩ := hkk.four
            obtain ⟨e8, e9⟩ := hbb (hb0 rfl)
            rw [e8, e9] at hkk
            go_simp
            refine (hf t2 hlt2 R w' (he.on hEE.b) hA (hr.ex hEE hA) hkk).mono ?_
            rintro e v1 ⟨A8, c8, x8, t8, b8, rfl, hk8, hx8, hO8, hl8, hev8, hE8⟩
            exact hK.out _ _ _ rfl rfl ⟨A8, c8, x8, t8, b8, rfl, hk8, hx8, hO8.base hEE.size, hl8, hev8⟩ (StepR.rel rfl ⟨hE8, t8, b8, hk8⟩)
          simp only [List.setIfInBounds_toArray, List.set_cons_zero, List.set_cons_succ]
          refine obs_stepK (Eq.trans (by simp only [List.getElem?_toArray, List.getElem?_cons_succ, List.getElem?_cons_zero]; exact rfl) rfl) rfl (fun b w' hb0 hS hV K hK => ?_) ?_
          · have e0 : x 0 = (.pointer (some ⟨R, 0, none⟩)) := hV 0 (by decide)
            have e1 : x 1 = (.pointer (some ⟨R, 0, none⟩)) := hV 1 (by decide)
            have e2 : x 2 = (.pointer (some ⟨R, 0, none⟩)) := hV 2 (by decide)
            have e3 : x 3 = (.agg #[.int .i64 P, .slice A n c]) := hV 3 (by decide)
            have e4 : x 4 = (.slice A1 (pw n) c1) := hV 4 (by decide)
            have e5 : x 5 = (.pointer (some ⟨R, 0, none⟩)) := hV 5 (by decide)
            obtain ⟨A6, c6, X6, T6, B6, e6, k6, m6, o6, l6, v6⟩ := hV 6 (by decide)
            obtain ⟨⟨ts, bs, hkk, hbb⟩, hEE, hOO⟩ := hS; obtain ⟨q0, q1, q2, q3⟩ := hkk.four
            go_simp
            refine (wedge_any P A n c sq A1 c1 x1 A6 c6 X6 w' hp hp2 hn (hr.ex hEE hA) hs hOO.rd HMU.out.2 o6.rd m6.2).mono ?_
            rintro e v1 ⟨A9, c9, rfl, hM⟩
            exact hK.out _ _ _ rfl rfl ⟨A9, c9, X6, T6, B6, rfl, k6.below hM.b k6.lt, m6, hM.2.base hEE.size, l6, v6⟩ hM.b
          simp only [List.setIfInBounds_toArray, List.set_cons_zero, List.set_cons_succ]
          refine fun w' bb hS hV => ?_
          have e0 : x 0 = (.pointer (some ⟨R, 0, none⟩)) := hV 0 (by decide)
          have e1 : x 1 = (.pointer (some ⟨R, 0, none⟩)) := hV 1 (by decide)
          have e2 : x 2 = (.pointer (some ⟨R, 0, none⟩)) := hV 2 (by decide)
          have e3 : x 3 = (.agg #[.int .i64 P, .slice A n c]) := hV 3 (by decide)
          have e4 : x 4 = (.slice A1 (pw n) c1) := hV 4 (by decide)
          have e5 : x 5 = (.pointer (some ⟨R, 0, none⟩)) := hV 5 (by decide)
          obtain ⟨A6, c6, X6, T6, B6, e6, k6, m6, o6, l6, v6⟩ := hV 6 (by decide)
          obtain ⟨A7, c7, X7, T7, B7, e7, k7, m7, o7, l7, v7⟩ := hV 7 (by decide)
          simp only [e0, e1, e2, e3, e4, e5, e6, e7]
          clear e0 e1 e2 e3 e4 e5 e6 e7
          refine any_one (j := 8) (by kernel_rfl) (Eq.trans (by simp only [List.getElem?_toArray, List.getElem?_cons_succ, List.getElem?_cons_zero]; exact rfl) rfl) (fun K hK => ?_)
          go_simp
          refine hK.out _ _ (wpAny_done (by kernel_rfl) ?_ _)
          have hEE := hS.2.1
          have HEV := Lib.hid v7
          clear v7 hS hV
          go_wp2
          go_roundw
          case rel =>
            refine ⟨A7, c7, wedgeL P sq x1 X7, T7, B7, rfl, k7, ⟨(wedgeL_len _ _ _ _).trans HMU.out.1, wedgeL_nums (by omega) _ _ _⟩, o7, by omega, ?_, hEE⟩
            rw [HS2.out, HEV.out]
            cases B7 <;> rfl
          case measure =>
            rw [k7.cell 2]
            show (ByteArray.mk T7.toArray).size < _
            rw [bs_len]; omega
        · go_wp2_with fail
          refine hcall.mono ?_
          rintro e w2 ⟨rfl, hk2, hE2b⟩
          have hO2 := hO1.ex hE2b hk1 (by decide)
          have hE2 := hE1.trans hE2b
          clear hcall hO1 hE1 hE2b hk1 q3
          go_wp2_with fail
          refine wp_obsK 8 (fun w w' => Ex R w w' ∧ ∃ t b, RdB w' R P A n c t b) [[], [0], [0, 1], [0, 1, 2], [], [], [5], [0, 1, 2, 3, 4, 5, 6], [0, 1, 2, 3, 4, 5, 6, 7]] [[], [], [], [], [], [], [99], []] (fun x => [VIs (.pointer (some ⟨R, 0, none⟩)), VIs (.pointer (some ⟨R, 0, none⟩)), VIs (.pointer (some ⟨R, 0, none⟩)), VIs (.agg #[.int .i64 P, .slice A n c]), VIs (.slice A1 (pw n) c1), VIs (.pointer (some ⟨R, 0, none⟩)), VRk R P sq A n c .fac t2 w.heap.size (fun x => x), VRk R P sq A n c .fac t2 w.heap.size (fun x => contrL P sq x1 x)]) 6 (fun b w' => SRd R P A n c t2 b w' ∧ Ex R w w' ∧ Own w' w.heap.size 2 A1 (pw n) c1 (ints x1)) (by kernel_rfl) (by kernel_rfl) (fun x x' j hx => by
              rcases j with _ | _ | _ | _ | _ | _ | _ | _ | j
              · rfl
              · rfl
              · rfl
              · rfl
              · rfl
              · rfl
              · rfl
              · rfl
              · rfl)
            (weak_ofR [0, 1, 2, 3, 4, 5] (by decide) (fun k hk x v w w' hp hr => by
              simp only [List.mem_cons, List.not_mem_nil, or_false] at hk
              rcases hk with rfl | rfl | rfl | rfl | rfl | rfl
              · exact hp
              · exact hp
              · exact hp
              · exact hp
              · exact hp
              · exact hp)) (fun j b _ w' h hst => hst.eitherK 6 (only_at (by decide)) (fun hb => ⟨h.1.below _ hb, h.2.1.then hb (Nat.le_of_lt HG), h.2.2.below hb⟩) (fun e hr => ⟨SRd.rel b e hr.2, h.2.1.trans hr.1, by obtain ⟨⟨t5, b5, k5, _⟩, _, o5⟩ := h; exact o5.ex hr.1 k5 (by decide)⟩)) (⟨⟨t2, false, hk2.below (Below.refl _ _).drew hk2.lt, fun _ => ⟨rfl, rfl⟩⟩, hE2.then (Below.refl _ _).drew (Nat.le_of_lt HG), hO2.below (Below.refl _ _).drew⟩) (fun x => ?_)
          refine obs_stepK (Eq.trans (by simp only [List.getElem?_toArray, List.getElem?_cons_zero]; exact rfl) rfl) rfl (fun b w' hb0 hS hV K hK => ?_) ?_
          · obtain ⟨⟨ts, bs, hkk, hbb⟩, hEE, hOO⟩ := hS; obtain ⟨q0, q1, q2, q3⟩ := hkk.four
            go_simp
            exact hK.out _ _ _ rfl rfl rfl (Below.refl _ _)
          simp only [List.setIfInBounds_toArray, List.set_cons_zero, List.set_cons_succ]
          refine obs_stepK (Eq.trans (by simp only [List.getElem?_toArray, List.getElem?_cons_succ, List.getElem?_cons_zero]; exact rfl) rfl) rfl (fun b w' hb0 hS hV K hK => ?_) ?_
          · have e0 : x 0 = (.pointer (some ⟨R, 0, none⟩)) := hV 0 (by decide)
            obtain ⟨⟨ts, bs, hkk, hbb⟩, hEE, hOO⟩ := hS; obtain ⟨q0, q1, q2, q3⟩ := hkk.four
            go_simp
            exact hK.out _ _ _ rfl rfl rfl (Below.refl _ _)
          simp only [List.setIfInBounds_toArray, List.set_cons_zero, List.set_cons_succ]
          refine obs_stepK (Eq.trans (by simp only [List.getElem?_toArray, List.getElem?_cons_succ, List.getElem?_cons_zero]; exact rfl) rfl) rfl (fun b w' hb0 hS hV K hK => ?_) ?_
          · have e0 : x 0 = (.pointer (some ⟨R, 0, none⟩)) := hV 0 (by decide)
            have e1 : x 1 = (.pointer (some ⟨R, 0, none⟩)) := hV 1 (by decide)
            obtain ⟨⟨ts, bs, hkk, hbb⟩, hEE, hOO⟩ := hS; obtain ⟨q0, q1, q2, q3⟩ := hkk.four
            go_simp
            exact hK.out _ _ _ rfl rfl rfl (Below.refl _ _)
          simp only [List.setIfInBounds_toArray, List.set_cons_zero, List.set_cons_succ]
          refine obs_stepK (Eq.trans (by simp only [List.getElem?_toArray, List.getElem?_cons_succ, List.getElem?_cons_zero]; exact rfl) rfl) rfl (fun b w' hb0 hS hV K hK => ?_) ?_
          · have e0 : x 0 = (.pointer (some ⟨R, 0, none⟩)) := hV 0 (by decide)
            have e1 : x 1 = (.pointer (some ⟨R, 0, none⟩)) := hV 1 (by decide)
            have e2 : x 2 = (.pointer (some ⟨R, 0, none⟩)) := hV 2 (by decide)
            obtain ⟨⟨ts, bs, hkk, hbb⟩, hEE, hOO⟩ := hS; obtain ⟨q0, q1, q2, q3⟩ := hkk.four
            go_simp
            exact hK.out _ _ _ rfl rfl rfl (Below.refl _ _)
          simp only [List.setIfInBounds_toArray, List.set_cons_zero, List.set_cons_succ]
          refine obs_stepK (Eq.trans (by simp only [List.getElem?_toArray, List.getElem?_cons_succ, List.getElem?_cons_zero]; exact rfl) rfl) rfl (fun b w' hb0 hS hV K hK => ?_) ?_
          · obtain ⟨⟨ts, bs, hkk, hbb⟩, hEE, hOO⟩ := hS; obtain ⟨q0, q1, q2, q3⟩ := hkk.four
            go_simp
            exact hK.out _ _ _ rfl rfl rfl (Below.refl _ _)
          simp only [List.setIfInBounds_toArray, List.set_cons_zero, List.set_cons_succ]
          refine obs_stepK (Eq.trans (by simp only [List.getElem?_toArray, List.getElem?_cons_succ, List.getElem?_cons_zero]; exact rfl) rfl) rfl (fun b w' hb0 hS hV K hK => ?_) ?_
          · obtain ⟨⟨ts, bs, hkk, hbb⟩, hEE, hOO⟩ := hS; obtain ⟨q0, q1, q2, q3⟩ := hkk.four
            go_simp
            exact hK.out _ _ _ rfl rfl rfl (Below.refl _ _)
          simp only [List.setIfInBounds_toArray, List.set_cons_zero, List.set_cons_succ]
          refine obs_stepK (Eq.trans (by simp only [List.getElem?_toArray, List.getElem?_cons_succ, List.getElem?_cons_zero]; exact rfl) rfl) rfl (fun b w' hb0 hS hV K hK => ?_) ?_
          · have e5 : x 5 = (.pointer (some ⟨R, 0, none⟩)) := hV 5 (by decide)
            obtain ⟨⟨ts, bs, hkk, hbb⟩, hEE, hOO⟩ := hS; obtain ⟨q0, q1, q2, q3⟩ := hkk.four
            obtain ⟨e8, e9⟩ := hbb (hb0 rfl)
            rw [e8, e9] at hkk
            go_simp
            refine (hf t2 hlt2 R w' (he.on hEE.b) hA (hr.ex hEE hA) hkk).mono ?_
            rintro e v1 ⟨A8, c8, x8, t8, b8, rfl, hk8, hx8, hO8, hl8, hev8, hE8⟩
            exact hK.out _ _ _ rfl rfl ⟨A8, c8, x8, t8, b8, rfl, hk8, hx8, hO8.base hEE.size, hl8, hev8⟩ (StepR.rel rfl ⟨hE8, t8, b8, hk8⟩)
          simp only [List.setIfInBounds_toArray, List.set_cons_zero, List.set_cons_succ]
          refine obs_stepK (Eq.trans (by simp only [List.getElem?_toArray, List.getElem?_cons_succ, List.getElem?_cons_zero]; exact rfl) rfl) rfl (fun b w' hb0 hS hV K hK => ?_) ?_
          · have e0 : x 0 = (.pointer (some ⟨R, 0, none⟩)) := hV 0 (by decide)
            have e1 : x 1 = (.pointer (some ⟨R, 0, none⟩)) := hV 1 (by decide)
            have e2 : x 2 = (.pointer (some ⟨R, 0, none⟩)) := hV 2 (by decide)
            have e3 : x 3 = (.agg #[.int .i64 P, .slice A n c]) := hV 3 (by decide)
            have e4 : x 4 = (.slice A1 (pw n) c1) := hV 4 (by decide)
            have e5 : x 5 = (.pointer (some ⟨R, 0, none⟩)) := hV 5 (by decide)
            obtain ⟨A6, c6, X6, T6, B6, e6, k6, m6, o6, l6, v6⟩ := hV 6 (by decide)
            obtain ⟨⟨ts, bs, hkk, hbb⟩, hEE, hOO⟩ := hS; obtain ⟨q0, q1, q2, q3⟩ := hkk.four
            go_simp
            refine (contract_any P A n c sq A1 c1 x1 A6 c6 X6 w' hp hp2 hn (hr.ex hEE hA) hs hOO.rd HMU.out.2 o6.rd m6.2).mono ?_
            rintro e v1 ⟨A9, c9, rfl, hM⟩
            exact hK.out _ _ _ rfl rfl ⟨A9, c9, X6, T6, B6, rfl, k6.below hM.b k6.lt, m6, hM.2.base hEE.size, l6, v6⟩ hM.b
          simp only [List.setIfInBounds_toArray, List.set_cons_zero, List.set_cons_succ]
          refine fun w' bb hS hV => ?_
          have e0 : x 0 = (.pointer (some ⟨R, 0, none⟩)) := hV 0 (by decide)
          have e1 : x 1 = (.pointer (some ⟨R, 0, none⟩)) := hV 1 (by decide)
          have e2 : x 2 = (.pointer (some ⟨R, 0, none⟩)) := hV 2 (by decide)
          have e3 : x 3 = (.agg #[.int .i64 P, .slice A n c]) := hV 3 (by decide)
          have e4 : x 4 = (.slice A1 (pw n) c1) := hV 4 (by decide)
          have e5 : x 5 = (.pointer (some ⟨R, 0, none⟩)) := hV 5 (by decide)
          obtain ⟨A6, c6, X6, T6, B6, e6, k6, m6, o6, l6, v6⟩ := hV 6 (by decide)
          obtain ⟨A7, c7, X7, T7, B7, e7, k7, m7, o7, l7, v7⟩ := hV 7 (by decide)
          simp only [e0, e1, e2, e3, e4, e5, e6, e7]
          clear e0 e1 e2 e3 e4 e5 e6 e7
          refine any_one (j := 8) (by kernel_rfl) (Eq.trans (by simp only [List.getElem?_toArray, List.getElem?_cons_succ, List.getElem?_cons_zero]; exact rfl) rfl) (fun K hK => ?_)
          go_simp
          refine hK.out _ _ (wpAny_done (by kernel_rfl) ?_ _)
          have hEE := hS.2.1
          have HEV := Lib.hid v7
          clear v7 hS hV
          go_wp2
          go_roundw
          case rel =>
            refine ⟨A7, c7, contrL P sq x1 X7, T7, B7, rfl, k7, ⟨(contrL_len _ _ _ _).trans HMU.out.1, contrL_nums (by omega) _ _ _⟩, o7, by omega, ?_, hEE⟩
            rw [HS2.out, HEV.out]
            cases B7 <;> rfl
          case measure =>
            rw [k7.cell 2]
            show (ByteArray.mk T7.toArray).size < _
            rw [bs_len]; omega
end Go.Proofs.YticofgmmjecleaaGreatDoor
namespace Go.Proofs.YticofgmmjecleaaGreatDoor
open Go.RowKit
set_option maxHeartbeats 1600000 in
set_option maxRecDepth 8000 in
theorem l04Signs_rev (P : Int) (A : Option Addr) (n c : Nat) (X : Option Addr) (m cx : Nat) (xs : List Int) (w : World) (hp : 2 ≤ P) (hp2 : P ≤ 13) (hm : m ≤ 64) (hx : Rd w X m (ints xs)) (hxs : NumsL P xs) :
    Calls Tryz.prog 183 #[.agg #[.int .i64 P, .slice A n c], .slice X m cx, .bool true, .bool false] w fun e w' => ∃ A' c', e = .returned (.slice A' m c') ∧ MkI w w' A' m c' (sgnL P revT xs) := by
  have hxl : xs.length = m := by have := hx.1; rwa [ints_length] at this
  have hB0 : Below w.heap.size w (w.alloc (.cells #[.int .i64 P, .slice A n c] 28)) := (Below.refl _ w).alloc (Nat.le_refl _) _
  have k0 : Blk (w.alloc (.cells #[.int .i64 P, .slice A n c] 28)) w.heap.size 28 #[.int .i64 P, .slice A n c] := Blk.new _ _ _
  have hM0 := Mk.lit (E := 2) hB0 #[] (by simp)
  have hM1 : MkI w ((w.alloc (.cells #[.int .i64 P, .slice A n c] 28)).alloc (.cells #[] 2)) (some ⟨w.heap.size + 1, 0, none⟩) 0 0 [] := by simpa [MkI, ints] using hM0
  have k1 := k0.alloc (.cells #[] 2)
  have HX := Lib.hid hxl; clear hxl
  go_enter Tryz.func183, Tryz.ntmps183
  go_wp2
  clear hM0 hB0 k0
  obtain ⟨w1, hw1⟩ : ∃ W, W = (w.alloc (.cells #[.int .i64 P, .slice A n c] 28)).alloc (.cells #[] 2) := ⟨_, rfl⟩
  rw [← hw1] at hM1 k1 ⊢
  clear hw1
  go_loopw [9, 10, 11, 12] (fun o i _ _ wr => ∃ (k : Nat) (A' : Option Addr) (c' : Nat), k ≤ m ∧ i = .int .i64 k ∧ o = .slice A' k c' ∧ MkI w wr A' k c' (tab k fun i => if revT (pc i) then (-(xs.getD i 0)) % P else xs.getD i 0) ∧ Blk wr w.heap.size 28 #[.int .i64 P, .slice A n c]) (fun _ i _ _ _ => m - (intOf i).toNat)
  case atStart => exact ⟨0, _, _, by omega, rfl, rfl, by simpa [tab] using hM1, k1⟩
  case round =>
    obtain ⟨k, A', c', hk, rfl, rfl, hM, hk2⟩ := hrel
    clear hM1 k1
    by_cases hlt : k < m
    · obtain ⟨gx, ox, rfl, hxk, hcx⟩ := (hx.below hM.b).int hlt
      obtain ⟨x1, x2⟩ := hxs _ (List.getElem_mem hxk)
      have hpk := pc_le 6 k (by omega)
      have hxd := getD_of_lt 0 hxk
      have HXD := Lib.hid hxd; clear hxd
      have hmm : 0 ≤ ((pc k : Nat) : Int) * (((pc k : Nat) : Int) - 1) ∧ ((pc k : Nat) : Int) * (((pc k : Nat) : Int) - 1) ≤ 1000000 := by
        rcases Nat.eq_zero_or_pos (pc k) with h | h
        · rw [h]; simp
        · have := mul_small (show (0 : Int) ≤ (pc k : Nat) by omega) (show ((pc k : Nat) : Int) ≤ 1000 by omega) (show (0 : Int) ≤ ((pc k : Nat) : Int) - 1 by omega) (show ((pc k : Nat) : Int) - 1 ≤ 1000 by omega)
          omega
      obtain ⟨m1, m2⟩ := hmm
      have hbT := rev_bool (pc k) (by omega)
      cases ht : revT (pc k)
      · rw [ht] at hbT
        have HV : Hid ((tab (k + 1) fun i => if revT (pc i) then (-(xs.getD i 0)) % P else xs.getD i 0) = (tab k fun i => if revT (pc i) then (-(xs.getD i 0)) % P else xs.getD i 0) ++ [xs[k]]) := Lib.hid (by rw [tab_succ, if_neg (by rw [ht]; decide), HXD.out])
        have HM := Lib.hid hM
        clear hM ht
        go_wp2_with (first
          | (go_at_call 136; refine (l04Grade_any k _ (by omega)).mono ?_; rintro e w' ⟨rfl, rfl⟩)
          | (at_builtin; refine wpList_app1 w _ 22 2 _ _ Tryz.underlying22 info_i rfl (by omega) rfl _ _ rfl A' k c' _ _ HM.out (by omega) rfl rfl rfl ?_; intro A2 c2 w2 hM2 hgr _))
        have hne := HM.out.2.ne_blk hk2 (by decide)
        have hk3 := hk2.grown hgr hne
        go_roundw
        case rel => exact ⟨k + 1, A2, c2, by omega, by go_num, rfl, by rw [HV.out]; simpa [MkI, ints] using hM2, hk3⟩
        case measure => simp [intOf]; omega
      · rw [ht] at hbT
        have HV : Hid ((tab (k + 1) fun i => if revT (pc i) then (-(xs.getD i 0)) % P else xs.getD i 0) = (tab k fun i => if revT (pc i) then (-(xs.getD i 0)) % P else xs.getD i 0) ++ [(-xs[k]) % P]) := Lib.hid (by rw [tab_succ, if_pos ht, HXD.out])
        clear ht
        have W1 := i64_fit (P - xs[k]) (by omega) (by omega)
        have W2 : (P - xs[k]).tmod P = (-xs[k]) % P := by rw [Int.tmod_eq_emod_of_nonneg (by omega), show P - xs[k] = -xs[k] + P by omega, Int.add_emod_right]
        have i1 : (0 : Int) ≤ (k : Int) := by omega
        have hP0 : ¬ P = 0 := by omega
        have i2 : (k : Int) < (m : Int) := by omega
        go_wp2_with (go_at_call 136; refine (l04Grade_any k _ (by omega)).mono ?_; rintro e w' ⟨rfl, rfl⟩)
        go_wp2
        refine wp_obs 12 [[], [], [1], [], [], [3, 4], [3, 4, 5], [1, 2, 3, 4, 5, 6], [], [8], [1, 2, 3, 4, 5, 6, 7, 8, 9], [1, 2, 3, 4, 5, 6, 7, 8, 9, 10], [0, 1, 2, 3, 4, 5, 6, 7, 8, 9, 10, 11], [0, 1, 2, 3, 4, 5, 6, 7, 8, 9, 10, 11, 12]] [VIs (.slice A' k c'), VIs (.pointer (some ⟨w.heap.size, 0, none⟩)), VIs (.int .i64 P), VIs (.slice (some ⟨gx, ox, none⟩) m cx), VIs (.int .i64 k), VIs (.pointer (some ⟨gx, ox + k, none⟩)), VIs (.int .i64 xs[k]), VIs (.int .i64 (P - xs[k])), VIs (.pointer (some ⟨w.heap.size, 0, none⟩)), VIs (.int .i64 P), VIs (.int .i64 ((-xs[k]) % P)), VBs 2 #[.int .i64 ((-xs[k]) % P)]] (fun w' => Blk w' w.heap.size 28 #[.int .i64 P, .slice A n c] ∧ MkI w w' A' k c' (tab k fun i => if revT (pc i) then (-(xs.getD i 0)) % P else xs.getD i 0) ∧ w'.cell? ⟨gx, ox + k, none⟩ = some (.int .i64 xs[k])) (by kernel_rfl) (by kernel_rfl) (fun _ _ h hb => ⟨h.1.below hb h.1.lt, h.2.1.below hb, (hb.cell (World.block_lt_of_cell? _ _ h.2.2)).trans h.2.2⟩) (⟨hk2.drew, hM.drew, hcx⟩) (fun x => ?_)
        refine obs_step (Eq.trans (by simp only [List.getElem?_toArray, List.getElem?_cons_zero]; exact rfl) rfl) rfl (fun w' hS hV K hK => ?_) ?_
        · obtain ⟨q0, q1⟩ := hS.1.two; have q2 := hS.2.2
          go_simp
          exact hK.out _ _ _ rfl rfl rfl (Below.refl _ _)
        simp only [List.setIfInBounds_toArray, List.set_cons_zero, List.set_cons_succ]
        refine obs_step (Eq.trans (by simp only [List.getElem?_toArray, List.getElem?_cons_succ, List.getElem?_cons_zero]; exact rfl) rfl) rfl (fun w' hS hV K hK => ?_) ?_
        · obtain ⟨q0, q1⟩ := hS.1.two; have q2 := hS.2.2
          go_simp
          exact hK.out _ _ _ rfl rfl rfl (Below.refl _ _)
        simp only [List.setIfInBounds_toArray, List.set_cons_zero, List.set_cons_succ]
        refine obs_step (Eq.trans (by simp only [List.getElem?_toArray, List.getElem?_cons_succ, List.getElem?_cons_zero]; exact rfl) rfl) rfl (fun w' hS hV K hK => ?_) ?_
        · simp only [List.mem_cons, List.not_mem_nil, or_false, forall_eq, List.getD_cons_succ, List.getD_cons_zero, VIs, VAny, VBs] at hV
          obtain e1 := hV
          obtain ⟨q0, q1⟩ := hS.1.two; have q2 := hS.2.2
          go_simp
          exact hK.out _ _ _ rfl rfl rfl (Below.refl _ _)
        simp only [List.setIfInBounds_toArray, List.set_cons_zero, List.set_cons_succ]
        refine obs_step (Eq.trans (by simp only [List.getElem?_toArray, List.getElem?_cons_succ, List.getElem?_cons_zero]; exact rfl) rfl) rfl (fun w' hS hV K hK => ?_) ?_
        · obtain ⟨q0, q1⟩ := hS.1.two; have q2 := hS.2.2
          go_simp
          exact hK.out _ _ _ rfl rfl rfl (Below.refl _ _)
        simp only [List.setIfInBounds_toArray, List.set_cons_zero, List.set_cons_succ]
        refine obs_step (Eq.trans (by simp only [List.getElem?_toArray, List.getElem?_cons_succ, List.getElem?_cons_zero]; exact rfl) rfl) rfl (fun w' hS hV K hK => ?_) ?_
        · obtain ⟨q0, q1⟩ := hS.1.two; have q2 := hS.2.2
          go_simp
          exact hK.out _ _ _ rfl rfl rfl (Below.refl _ _)
        simp only [List.setIfInBounds_toArray, List.set_cons_zero, List.set_cons_succ]
        refine obs_step (Eq.trans (by simp only [List.getElem?_toArray, List.getElem?_cons_succ, List.getElem?_cons_zero]; exact rfl) rfl) rfl (fun w' hS hV K hK => ?_) ?_
        · simp only [List.mem_cons, List.not_mem_nil, or_false, forall_eq_or_imp, forall_eq, List.getD_cons_succ, List.getD_cons_zero, VIs, VAny, VBs] at hV
          obtain ⟨e3, e4⟩ := hV
          obtain ⟨q0, q1⟩ := hS.1.two; have q2 := hS.2.2
          go_simp
          exact hK.out _ _ _ rfl rfl rfl (Below.refl _ _)
        simp only [List.setIfInBounds_toArray, List.set_cons_zero, List.set_cons_succ]
        refine obs_step (Eq.trans (by simp only [List.getElem?_toArray, List.getElem?_cons_succ, List.getElem?_cons_zero]; exact rfl) rfl) rfl (fun w' hS hV K hK => ?_) ?_
        · simp only [List.mem_cons, List.not_mem_nil, or_false, forall_eq_or_imp, forall_eq, List.getD_cons_succ, List.getD_cons_zero, VIs, VAny, VBs] at hV
          obtain ⟨e3, e4, e5⟩ := hV
          obtain ⟨q0, q1⟩ := hS.1.two; have q2 := hS.2.2
          go_simp
          exact hK.out _ _ _ rfl rfl rfl (Below.refl _ _)
        simp only [List.setIfInBounds_toArray, List.set_cons_zero, List.set_cons_succ]
        refine obs_step (Eq.trans (by simp only [List.getElem?_toArray, List.getElem?_cons_succ, List.getElem?_cons_zero]; exact rfl) rfl) rfl (fun w' hS hV K hK => ?_) ?_
        · simp only [List.mem_cons, List.not_mem_nil, or_false, forall_eq_or_imp, forall_eq, List.getD_cons_succ, List.getD_cons_zero, VIs, VAny, VBs] at hV
          obtain ⟨e1, e2, e3, e4, e5, e6⟩ := hV
          obtain ⟨q0, q1⟩ := hS.1.two; have q2 := hS.2.2
          go_simp
          exact hK.out _ _ _ rfl rfl rfl (Below.refl _ _)
        simp only [List.setIfInBounds_toArray, List.set_cons_zero, List.set_cons_succ]
        refine obs_step (Eq.trans (by simp only [List.getElem?_toArray, List.getElem?_cons_succ, List.getElem?_cons_zero]; exact rfl) rfl) rfl (fun w' hS hV K hK => ?_) ?_
        · obtain ⟨q0, q1⟩ := hS.1.two; have q2 := hS.2.2
          go_simp
          exact hK.out _ _ _ rfl rfl rfl (Below.refl _ _)
        simp only [List.setIfInBounds_toArray, List.set_cons_zero, List.set_cons_succ]
        refine obs_step (Eq.trans (by simp only [List.getElem?_toArray, List.getElem?_cons_succ, List.getElem?_cons_zero]; exact rfl) rfl) rfl (fun w' hS hV K hK => ?_) ?_
        · simp only [List.mem_cons, List.not_mem_nil, or_false, forall_eq, List.getD_cons_succ, List.getD_cons_zero, VIs, VAny, VBs] at hV
          obtain e8 := hV
          obtain ⟨q0, q1⟩ := hS.1.two; have q2 := hS.2.2
          go_simp
          exact hK.out _ _ _ rfl rfl rfl (Below.refl _ _)
        simp only [List.setIfInBounds_toArray, List.set_cons_zero, List.set_cons_succ]
        refine obs_step (Eq.trans (by simp only [List.getElem?_toArray, List.getElem?_cons_succ, List.getElem?_cons_zero]; exact rfl) rfl) rfl (fun w' hS hV K hK => ?_) ?_
        · simp only [List.mem_cons, List.not_mem_nil, or_false, forall_eq_or_imp, forall_eq, List.getD_cons_succ, List.getD_cons_zero, VIs, VAny, VBs] at hV
          obtain ⟨e1, e2, e3, e4, e5, e6, e7, e8, e9⟩ := hV
          obtain ⟨q0, q1⟩ := hS.1.two; have q2 := hS.2.2
          go_simp
          exact hK.out _ _ _ rfl rfl rfl (Below.refl _ _)
        simp only [List.setIfInBounds_toArray, List.set_cons_zero, List.set_cons_succ]
        refine obs_step (Eq.trans (by simp only [List.getElem?_toArray, List.getElem?_cons_succ, List.getElem?_cons_zero]; exact rfl) rfl) rfl (fun w' hS hV K hK => ?_) ?_
        · simp only [List.mem_cons, List.not_mem_nil, or_false, forall_eq_or_imp, forall_eq, List.getD_cons_succ, List.getD_cons_zero, VIs, VAny, VBs] at hV
          obtain ⟨e1, e2, e3, e4, e5, e6, e7, e8, e9, e10⟩ := hV
          obtain ⟨q0, q1⟩ := hS.1.two; have q2 := hS.2.2
          go_simp
          exact hK.out _ _ _ rfl rfl ⟨_, rfl, Blk.new _ _ _⟩ ((Below.refl _ _).alloc (Nat.le_refl _) _)
        simp only [List.setIfInBounds_toArray, List.set_cons_zero, List.set_cons_succ]
        refine fun w' hS hV => ?_
        have hV := fun i hi => hV i (List.mem_range.1 hi)
        simp only [List.range, List.range.loop, List.mem_cons, List.not_mem_nil, or_false, forall_eq_or_imp, forall_eq, List.getD_cons_succ, List.getD_cons_zero, VIs, VAny, VBs] at hV
        obtain ⟨e0, e1, e2, e3, e4, e5, e6, e7, e8, e9, e10, ⟨b11, e11, h11⟩⟩ := hV
        simp only [e0, e1, e2, e3, e4, e5, e6, e7, e8, e9, e10, e11]
        clear e0 e1 e2 e3 e4 e5 e6 e7 e8 e9 e10 e11
        obtain ⟨s1, s2, s3⟩ := hS
        refine any_plain (j := 12) (by kernel_rfl) (Eq.trans (by simp only [List.getElem?_toArray, List.getElem?_cons_succ, List.getElem?_cons_zero]; exact rfl) rfl) rfl (fun K hK => ?_)
        refine wp_app1 w w' 22 2 _ _ Tryz.underlying22 info_i rfl (by omega) _ _ rfl A' k c' _ _ s2 (by omega) rfl _ h11 (by rfl) (by rfl) ?_
        intro A2 c2 w2 hM2 hgr
        refine hK.out _ _ ?_
        have hne := s2.2.ne_blk s1 (by decide)
        have hk3 := s1.grown hgr hne
        simp only [Act.put, List.setIfInBounds_toArray, List.set_cons_zero, List.set_cons_succ]
        refine any_one (j := 13) (by kernel_rfl) (Eq.trans (by simp only [List.getElem?_toArray, List.getElem?_cons_succ, List.getElem?_cons_zero]; exact rfl) rfl) (fun K hK => ?_)
        go_simp
        refine hK.out _ _ (wpAny_done (by kernel_rfl) ?_ _)
        clear W1 W2 s2 s3 hM
        go_wp2
        go_roundw
        case rel => exact ⟨k + 1, A2, c2, by omega, by go_num, rfl, by rw [HV.out]; simpa [MkI, ints] using hM2, hk3⟩
        case measure => simp [intOf]; omega
    · obtain rfl : k = m := by omega
      go_wp2
      go_ret
      exact ⟨_, _, rfl, by unfold sgnL; rw [HX.out]; exact hM⟩
set_option maxHeartbeats 400000 in
set_option maxRecDepth 8000 in
theorem l04Reverse_any (P : Int) (A : Option Addr) (n c : Nat) (X : Option Addr) (m cx : Nat) (xs : List Int) (w : World) (hp : 2 ≤ P) (hp2 : P ≤ 13) (hm : m ≤ 64) (hx : Rd w X m (ints xs)) (hxs : NumsL P xs) :
    Calls Tryz.prog 166 #[.agg #[.int .i64 P, .slice A n c], .slice X m cx] w fun e w' => ∃ A' c', e = .returned (.slice A' m c') ∧ MkI w w' A' m c' (revL P xs) := by
  have hB0 : Below w.heap.size w (w.alloc (.cells #[.int .i64 P, .slice A n c] 28)) := (Below.refl _ w).alloc (Nat.le_refl _) _
  have hcall := l04Signs_rev P A n c X m cx xs _ hp hp2 hm (hx.below hB0) hxs
  go_enter Tryz.func166, Tryz.ntmps166
  go_wp2_with (go_at_call 183; refine hcall.mono ?_; rintro e w1 ⟨A', c', rfl, hM⟩)
  go_ret
  exact ⟨_, _, rfl, hM.after hB0⟩
end Go.Proofs.YticofgmmjecleaaGreatDoor
