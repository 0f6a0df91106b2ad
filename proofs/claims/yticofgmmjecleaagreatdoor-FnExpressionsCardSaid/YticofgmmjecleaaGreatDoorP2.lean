/-
  LawFnExpressions: part 2 of the texts that the proof needs. No condition.
-/
import Derived.Test.YticofgmmjecleaaGreatDoorP1
namespace Go.Proofs.YticofgmmjecleaaGreatDoor
open Go.RowKit
theorem mod_mul_add (v a f p : Int) : (v + a % p * f) % p = (v + a * f) % p := by
  rw [Int.add_emod, mod_mul, ← Int.add_emod]
set_option maxRecDepth 2000 in
set_option maxHeartbeats 3200000 in
set_option maxRecDepth 8000 in
theorem l04Times_any (P : Int) (A : Option Addr) (n c : Nat) (sq : List Int) (X : Option Addr) (cx : Nat) (xs : List Int) (Y : Option Addr) (cy : Nat) (ys : List Int) (w : World) (hp : 2 ≤ P) (hp2 : P ≤ 13) (hn : n ≤ 6)
    (ha : Rd w A n (ints sq)) (hs : NumsL P sq) (hx : Rd w X (pw n) (ints xs)) (hxs : NumsL P xs) (hy : Rd w Y (pw n) (ints ys)) (hys : NumsL P ys) :
    Calls Tryz.prog 110 #[.agg #[.int .i64 P, .slice A n c], .slice X (pw n) cx, .slice Y (pw n) cy] w fun e w' => ∃ A' c', e = .returned (.slice A' (pw n) c') ∧ MkI w w' A' (pw n) c' (prodL P sq (fun _ _ => true) xs ys) := by
  have hxl : xs.length = pw n := by have := hx.1; rwa [ints_length] at this
  have hyl : ys.length = pw n := by have := hy.1; rwa [ints_length] at this
  have Hx := Lib.hid hxl; clear hxl
  have Hy := Lib.hid hyl; clear hyl
  have hpw : pw n ≤ 64 := pw_le hn
  have hmk := make_i (P := Tryz.prog) 22 2 Tryz.underlying22 info_i (pw n) (by omega)
  have hB0 : Below w.heap.size w (w.alloc (.cells #[.int .i64 P, .slice A n c] 28)) := (Below.refl _ w).alloc (Nat.le_refl _) _
  have hM := Mk.made (E := 2) (n := pw n) (z := .int .i64 0) hB0 (by simp only [maxLen]; omega)
  rw [ints_replicate] at hM
  have hk0 : Blk ((w.alloc (.cells #[.int .i64 P, .slice A n c] 28)).alloc (.cells (madeCells #[.int .i64 0] (pw n)) 2)) w.heap.size 28 #[.int .i64 P, .slice A n c] := (Blk.new w _ _).alloc _
  go_enter Tryz.func110, Tryz.ntmps110
  go_wp2
  clear hmk
  obtain ⟨w1, hw1⟩ : ∃ W, W = (w.alloc (.cells #[.int .i64 P, .slice A n c] 28)).alloc (.cells (madeCells #[.int .i64 0] (pw n)) 2) := ⟨_, rfl⟩
  rw [← hw1] at hM hk0 ⊢
  rw [World.size_alloc] at hM
  clear hB0 hw1
  obtain ⟨g, hg⟩ : ∃ g, g = w.heap.size + 1 := ⟨_, rfl⟩
  rw [← hg] at hM ⊢
  have hg1 : w.heap.size + 1 ≤ g := by omega
  clear hg
  go_loopw [8, 9] (fun i _ wr => ∃ k : Nat, k ≤ pw n ∧ i = .int .i64 k ∧ MkI w wr (some ⟨g, 0, none⟩) (pw n) (pw n) (addRows P sq (fun _ _ => true) xs ys (List.replicate (pw n) 0) k) ∧ Blk wr w.heap.size 28 #[.int .i64 P, .slice A n c]) (fun i _ _ => pw n - (intOf i).toNat)
  case atStart => exact ⟨0, by omega, rfl, by simpa [addRows] using hM, hk0⟩
  case round =>
    obtain ⟨k, hk, rfl, hM2, hk2⟩ := hrel
    clear hM hk0
    by_cases hlt : k < pw n
    · obtain ⟨gx, ox, hX, hxk, hcw⟩ := hx.int hlt
      subst hX
      obtain ⟨x1, x2⟩ := hxs _ (List.getElem_mem hxk)
      have hxn : Hid (xs.getD k 0 = xs[k]) := Lib.hid (by rw [List.getD_eq_getElem?_getD, List.getElem?_eq_getElem hxk]; rfl)
      have hgx := World.block_lt_of_cell? _ _ hcw
      have HGX : Hid (g ≠ gx) := Lib.hid (by simp at hgx; omega)
      have HCW := Lib.hid hcw
      clear hcw hgx
      have hR0 : MkI w wr (some ⟨g, 0, none⟩) (pw n) (pw n) (addRow P sq (fun _ _ => true) xs ys k (addRows P sq (fun _ _ => true) xs ys (List.replicate (pw n) 0) k) 0) := by simpa [addRow] using hM2
      have hN0 : NumsL P (addRows P sq (fun _ _ => true) xs ys (List.replicate (pw n) 0) k) := addRows_nums sq _ xs ys k (by omega) (NumsL.replicate (by omega) _)
      obtain ⟨L0, hL0⟩ : ∃ L, L = addRows P sq (fun _ _ => true) xs ys (List.replicate (pw n) 0) k := ⟨_, rfl⟩
      rw [← hL0] at hR0 hN0
      have HL0 := Lib.hid hL0
      clear hM2 hL0
      go_wp2
      go_loopw [9] (fun i wr => ∃ j : Nat, j ≤ pw n ∧ i = .int .i64 j ∧ MkI w wr (some ⟨g, 0, none⟩) (pw n) (pw n) (addRow P sq (fun _ _ => true) xs ys k L0 j) ∧ Blk wr w.heap.size 28 #[.int .i64 P, .slice A n c]) (fun i _ => pw n - (intOf i).toNat)
      case atStart => exact ⟨0, by omega, rfl, hR0, hk2⟩
      case round =>
        clear hR0 hk2
        obtain ⟨j, hj, rfl, hM3, hk3⟩ := hrel
        have hcx : wr.cell? ⟨gx, ox + k, none⟩ = some (.int .i64 xs[k]) := (hM3.b.cell (World.block_lt_of_cell? _ _ HCW.out)).trans HCW.out
        by_cases hlj : j < pw n
        · obtain ⟨gy, oy, hY, hyj, hcyw⟩ := hy.int hlj
          subst hY
          have hgy := World.block_lt_of_cell? _ _ hcyw
          have HGY : Hid (g ≠ gy) := Lib.hid (by simp at hgy; omega)
          have hcy : wr.cell? ⟨gy, oy + j, none⟩ = some (.int .i64 ys[j]) := (hM3.b.cell (World.block_lt_of_cell? _ _ hcyw)).trans hcyw
          clear hcyw hgy
          obtain ⟨y1, y2⟩ := hys _ (List.getElem_mem hyj)
          have hyn : Hid (ys.getD j 0 = ys[j]) := Lib.hid (by rw [List.getD_eq_getElem?_getD, List.getElem?_eq_getElem hyj]; rfl)
          cases h0 : (xs[k] != 0)
          · have hz : xs.getD k 0 = 0 := by rw [hxn.out]; simpa using h0
            have HM := Lib.hid hM3
            clear hM3
            go_wp2
            go_roundw
            case rel => exact ⟨k + 1, by omega, by go_num, by rw [addRows_succ, addRow_zero _ _ _ _ _ _ _ _ hz, ← HL0.out]; have := HM.out; rwa [addRow_zero _ _ _ _ _ _ _ _ hz] at this, hk3⟩
            case measure => simp [intOf]; omega
          · cases h1 : (ys[j] != 0)
            · have hz : Hid (ys.getD j 0 = 0) := Lib.hid (by rw [hyn.out]; simpa using h1)
              go_wp2
              go_roundw
              case rel => exact ⟨j + 1, by omega, by go_num, by rw [addRow_succ]; unfold addPair; rw [if_neg (fun hh => hh.2.1 hz.out)]; exact hM3, hk3⟩
              case measure => simp [intOf]; omega
            · have hidx : k ^^^ j < pw n := xor_lt hlt hlj
              have hxo := xor_all k (by omega) j (by omega)
              have hvb := (addRow_nums sq (fun _ _ => true) xs ys k j (by omega) hN0).getD (by omega) (k ^^^ j)
              obtain ⟨hoc, hof⟩ := mkI_at hM3.drew hidx
              obtain ⟨v0, hv0⟩ : ∃ v, v = (addRow P sq (fun _ _ => true) xs ys k L0 j).getD (k ^^^ j) 0 := ⟨_, rfl⟩
              rw [← hv0] at hvb hoc
              obtain ⟨v1, v2⟩ := hvb
              have HV0 := Lib.hid hv0
              have hAt : Hid (∀ w', MkI w w' (some ⟨g, 0, none⟩) (pw n) (pw n) (addRow P sq (fun _ _ => true) xs ys k L0 j) → w'.cell? ⟨g, k ^^^ j, none⟩ = some (.int .i64 v0) ∧ w'.frozen? ⟨g, k ^^^ j, none⟩ = false) :=
                Lib.hid (fun w' h => by rw [HV0.out]; exact mkI_at h hidx)
              clear hv0
              obtain ⟨f1, f2⟩ := fac_bound P sq k j hp
              obtain ⟨m1, m2⟩ := mul_small x1 (show xs[k] ≤ 13 by omega) y1 (show ys[j] ≤ 13 by omega)
              obtain ⟨r1, r2⟩ := emod_small (xs[k] * ys[j]) P (by omega)
              obtain ⟨m3, m4⟩ := mul_small r1 (show xs[k] * ys[j] % P ≤ 13 by omega) f1 (show fac P sq k j ≤ 13 by omega)
              have HNE : Hid (g ≠ w.heap.size ∧ g ≠ w.heap.size ∧ g ≠ gx ∧ g ≠ gy) := Lib.hid ⟨by omega, by omega, HGX.out, HGY.out⟩
              have hF : Hid (∀ w', MkI w w' (some ⟨g, 0, none⟩) (pw n) (pw n) (addRow P sq (fun _ _ => true) xs ys k L0 j) → Calls Tryz.prog 135 #[.agg #[.int .i64 P, .slice A n c], .int .i64 k, .int .i64 j] w' fun e w'' => e = .returned (.int .i64 (fac P sq k j)) ∧ Below w'.heap.size w' w'') :=
                Lib.hid (fun w' h => l04Blades_any P A n c sq k j w' hp hp2 hn (ha.below h.b) hs (by omega) (by omega))
              have HPair : Hid (xs.getD k 0 ≠ 0 ∧ ys.getD j 0 ≠ 0 ∧ true = true) := Lib.hid ⟨by rw [hxn.out]; simpa using h0, by rw [hyn.out]; simpa using h1, rfl⟩
              have W1 := i64_fit (xs[k] * ys[j]) (by omega) (by omega)
              have W2 := i64_fit (xs[k] * ys[j] % P * fac P sq k j) (by omega) (by omega)
              have W3 := i64_fit (v0 + xs[k] * ys[j] % P * fac P sq k j) (by omega) (by omega)
              have T1 := Int.tmod_eq_emod_of_nonneg (b := P) m1
              have T2 := Int.tmod_eq_emod_of_nonneg (a := (v0 + xs[k] * ys[j] % P * fac P sq k j)) (b := P) (by omega)
              obtain ⟨kc0, kc1⟩ := hk3.two
              have hoc2 : wr.cell? ⟨g, k ^^^ j, none⟩ = some (.int .i64 v0) := hoc
              have hof2 : wr.frozen? ⟨g, k ^^^ j, none⟩ = false := hof
              have hP0 : (P == 0) = false := by simp; omega
              have hP1 : (P == -1) = false := by simp; omega
              have hP2 : ¬ P = 0 := by omega
              have hO := hM3.drew
              have hk4 := hk3.drew
              go_wp2
              have i1 : (0 : Int) ≤ ((k ^^^ j : Nat) : Int) := by omega
              have i2 : ((k ^^^ j : Nat) : Int) < ((pw n : Nat) : Int) := by omega
              have i3 : (0 : Int) ≤ (k : Int) := by omega
              have i4 : (k : Int) < ((pw n : Nat) : Int) := by omega
              have i5 : (0 : Int) ≤ (j : Int) := by omega
              have i6 : (j : Int) < ((pw n : Nat) : Int) := by omega
              refine wp_obs 32 [[], [], [], [1, 2], [], [], [], [5, 6], [4, 5, 6, 7], [4, 5, 6, 7, 8], [], [], [10, 11], [10, 11, 12], [], [], [14, 15], [14, 15, 16], [10, 11, 12, 13, 14, 15, 16, 17], [], [19], [10, 11, 12, 13, 14, 15, 16, 17, 18, 19, 20], [], [], [], [22, 23, 24], [10, 11, 12, 13, 14, 15, 16, 17, 18, 19, 20, 21, 22, 23, 24, 25], [4, 5, 6, 7, 8, 9, 10, 11, 12, 13, 14, 15, 16, 17, 18, 19, 20, 21, 22, 23, 24, 25, 26], [], [28], [4, 5, 6, 7, 8, 9, 10, 11, 12, 13, 14, 15, 16, 17, 18, 19, 20, 21, 22, 23, 24, 25, 26, 27, 28, 29], [0, 1, 2, 3], [0, 1, 2, 3, 4, 5, 6, 7, 8, 9, 10, 11, 12, 13, 14, 15, 16, 17, 18, 19, 20, 21, 22, 23, 24, 25, 26, 27, 28, 29, 30, 31]] [VIs (.slice (some ⟨g, 0, none⟩) (pw n) (pw n)), VIs (.int .i64 (k)), VIs (.int .i64 (j)), VIs (.int .i64 ((k ^^^ j : Nat))), VIs (.slice (some ⟨g, 0, none⟩) (pw n) (pw n)), VIs (.int .i64 (k)), VIs (.int .i64 (j)), VIs (.int .i64 ((k ^^^ j : Nat))), VIs (.pointer (some ⟨g, k ^^^ j, none⟩)), VIs (.int .i64 (v0)), VIs (.slice (some ⟨gx, ox, none⟩) (pw n) cx), VIs (.int .i64 (k)), VIs (.pointer (some ⟨gx, ox + k, none⟩)), VIs (.int .i64 (xs[k])), VIs (.slice (some ⟨gy, oy, none⟩) (pw n) cy), VIs (.int .i64 (j)), VIs (.pointer (some ⟨gy, oy + j, none⟩)), VIs (.int .i64 (ys[j])), VIs (.int .i64 (xs[k] * ys[j])), VIs (.pointer (some ⟨w.heap.size, 0, none⟩)), VIs (.int .i64 (P)), VIs (.int .i64 (xs[k] * ys[j] % P)), VIs (.agg #[.int .i64 P, .slice A n c]), VIs (.int .i64 (k)), VIs (.int .i64 (j)), VIs (.int .i64 (fac P sq k j)), VIs (.int .i64 (xs[k] * ys[j] % P * fac P sq k j)), VIs (.int .i64 (v0 + xs[k] * ys[j] % P * fac P sq k j)), VIs (.pointer (some ⟨w.heap.size, 0, none⟩)), VIs (.int .i64 (P)), VIs (.int .i64 ((v0 + xs[k] * ys[j] % P * fac P sq k j) % P)), VIs (.pointer (some ⟨g, k ^^^ j, none⟩))] (fun w' => Blk w' w.heap.size 28 #[.int .i64 P, .slice A n c] ∧ MkI w w' (some ⟨g, 0, none⟩) (pw n) (pw n) (addRow P sq (fun _ _ => true) xs ys k L0 j) ∧ w'.cell? ⟨gx, ox + k, none⟩ = some (.int .i64 xs[k]) ∧ w'.cell? ⟨gy, oy + j, none⟩ = some (.int .i64 ys[j])) (by kernel_rfl) (by kernel_rfl) (fun _ _ h hb => ⟨h.1.below hb h.1.lt, h.2.1.below hb, (hb.cell (World.block_lt_of_cell? _ _ h.2.2.1)).trans h.2.2.1, (hb.cell (World.block_lt_of_cell? _ _ h.2.2.2)).trans h.2.2.2⟩) (⟨hk4, hO, hcx, hcy⟩) (fun x => ?_)
              refine obs_step (Eq.trans (by simp only [List.getElem?_toArray, List.getElem?_cons_zero]; exact rfl) rfl) rfl (fun w' hS hV K hK => ?_) ?_
              · obtain ⟨q0, q1⟩ := hS.1.two; obtain ⟨hoc, hof⟩ := hAt.out _ hS.2.1; have q2 := hS.2.2.1; have q3 := hS.2.2.2
                go_simp
                exact hK.out _ _ _ rfl rfl rfl (Below.refl _ _)
              simp only [List.setIfInBounds_toArray, List.set_cons_zero, List.set_cons_succ]
              refine obs_step (Eq.trans (by simp only [List.getElem?_toArray, List.getElem?_cons_succ, List.getElem?_cons_zero]; exact rfl) rfl) rfl (fun w' hS hV K hK => ?_) ?_
              · obtain ⟨q0, q1⟩ := hS.1.two; obtain ⟨hoc, hof⟩ := hAt.out _ hS.2.1; have q2 := hS.2.2.1; have q3 := hS.2.2.2
                go_simp
                exact hK.out _ _ _ rfl rfl rfl (Below.refl _ _)
              simp only [List.setIfInBounds_toArray, List.set_cons_zero, List.set_cons_succ]
              refine obs_step (Eq.trans (by simp only [List.getElem?_toArray, List.getElem?_cons_succ, List.getElem?_cons_zero]; exact rfl) rfl) rfl (fun w' hS hV K hK => ?_) ?_
              · obtain ⟨q0, q1⟩ := hS.1.two; obtain ⟨hoc, hof⟩ := hAt.out _ hS.2.1; have q2 := hS.2.2.1; have q3 := hS.2.2.2
                go_simp
                exact hK.out _ _ _ rfl rfl rfl (Below.refl _ _)
              simp only [List.setIfInBounds_toArray, List.set_cons_zero, List.set_cons_succ]
              refine obs_step (Eq.trans (by simp only [List.getElem?_toArray, List.getElem?_cons_succ, List.getElem?_cons_zero]; exact rfl) rfl) rfl (fun w' hS hV K hK => ?_) ?_
              · simp only [List.mem_cons, List.not_mem_nil, or_false, forall_eq_or_imp, forall_eq, List.getD_cons_succ, List.getD_cons_zero, VIs, VAny] at hV
                obtain ⟨e1, e2⟩ := hV
                obtain ⟨q0, q1⟩ := hS.1.two; obtain ⟨hoc, hof⟩ := hAt.out _ hS.2.1; have q2 := hS.2.2.1; have q3 := hS.2.2.2
                go_simp
                exact hK.out _ _ _ rfl rfl rfl (Below.refl _ _)
              simp only [List.setIfInBounds_toArray, List.set_cons_zero, List.set_cons_succ]
              refine obs_step (Eq.trans (by simp only [List.getElem?_toArray, List.getElem?_cons_succ, List.getElem?_cons_zero]; exact rfl) rfl) rfl (fun w' hS hV K hK => ?_) ?_
              · obtain ⟨q0, q1⟩ := hS.1.two; obtain ⟨hoc, hof⟩ := hAt.out _ hS.2.1; have q2 := hS.2.2.1; have q3 := hS.2.2.2
                go_simp
                exact hK.out _ _ _ rfl rfl rfl (Below.refl _ _)
              simp only [List.setIfInBounds_toArray, List.set_cons_zero, List.set_cons_succ]
              refine obs_step (Eq.trans (by simp only [List.getElem?_toArray, List.getElem?_cons_succ, List.getElem?_cons_zero]; exact rfl) rfl) rfl (fun w' hS hV K hK => ?_) ?_
              · obtain ⟨q0, q1⟩ := hS.1.two; obtain ⟨hoc, hof⟩ := hAt.out _ hS.2.1; have q2 := hS.2.2.1; have q3 := hS.2.2.2
                go_simp
                exact hK.out _ _ _ rfl rfl rfl (Below.refl _ _)
              simp only [List.setIfInBounds_toArray, List.set_cons_zero, List.set_cons_succ]
              refine obs_step (Eq.trans (by simp only [List.getElem?_toArray, List.getElem?_cons_succ, List.getElem?_cons_zero]; exact rfl) rfl) rfl (fun w' hS hV K hK => ?_) ?_
              · obtain ⟨q0, q1⟩ := hS.1.two; obtain ⟨hoc, hof⟩ := hAt.out _ hS.2.1; have q2 := hS.2.2.1; have q3 := hS.2.2.2
                go_simp
                exact hK.out _ _ _ rfl rfl rfl (Below.refl _ _)
              simp only [List.setIfInBounds_toArray, List.set_cons_zero, List.set_cons_succ]
              refine obs_step (Eq.trans (by simp only [List.getElem?_toArray, List.getElem?_cons_succ, List.getElem?_cons_zero]; exact rfl) rfl) rfl (fun w' hS hV K hK => ?_) ?_
              · simp only [List.mem_cons, List.not_mem_nil, or_false, forall_eq_or_imp, forall_eq, List.getD_cons_succ, List.getD_cons_zero, VIs, VAny] at hV
                obtain ⟨e5, e6⟩ := hV
                obtain ⟨q0, q1⟩ := hS.1.two; obtain ⟨hoc, hof⟩ := hAt.out _ hS.2.1; have q2 := hS.2.2.1; have q3 := hS.2.2.2
                go_simp
                exact hK.out _ _ _ rfl rfl rfl (Below.refl _ _)
              simp only [List.setIfInBounds_toArray, List.set_cons_zero, List.set_cons_succ]
              refine obs_step (Eq.trans (by simp only [List.getElem?_toArray, List.getElem?_cons_succ, List.getElem?_cons_zero]; exact rfl) rfl) rfl (fun w' hS hV K hK => ?_) ?_
              · simp only [List.mem_cons, List.not_mem_nil, or_false, forall_eq_or_imp, forall_eq, List.getD_cons_succ, List.getD_cons_zero, VIs, VAny] at hV
                obtain ⟨e4, e5, e6, e7⟩ := hV
                obtain ⟨q0, q1⟩ := hS.1.two; obtain ⟨hoc, hof⟩ := hAt.out _ hS.2.1; have q2 := hS.2.2.1; have q3 := hS.2.2.2
                go_simp
                exact hK.out _ _ _ rfl rfl rfl (Below.refl _ _)
              simp only [List.setIfInBounds_toArray, List.set_cons_zero, List.set_cons_succ]
              refine obs_step (Eq.trans (by simp only [List.getElem?_toArray, List.getElem?_cons_succ, List.getElem?_cons_zero]; exact rfl) rfl) rfl (fun w' hS hV K hK => ?_) ?_
              · simp only [List.mem_cons, List.not_mem_nil, or_false, forall_eq_or_imp, forall_eq, List.getD_cons_succ, List.getD_cons_zero, VIs, VAny] at hV
                obtain ⟨e4, e5, e6, e7, e8⟩ := hV
                obtain ⟨q0, q1⟩ := hS.1.two; obtain ⟨hoc, hof⟩ := hAt.out _ hS.2.1; have q2 := hS.2.2.1; have q3 := hS.2.2.2
                go_simp
                exact hK.out _ _ _ rfl rfl rfl (Below.refl _ _)
              simp only [List.setIfInBounds_toArray, List.set_cons_zero, List.set_cons_succ]
              refine obs_step (Eq.trans (by simp only [List.getElem?_toArray, List.getElem?_cons_succ, List.getElem?_cons_zero]; exact rfl) rfl) rfl (fun w' hS hV K hK => ?_) ?_
              · obtain ⟨q0, q1⟩ := hS.1.two; obtain ⟨hoc, hof⟩ := hAt.out _ hS.2.1; have q2 := hS.2.2.1; have q3 := hS.2.2.2
                go_simp
                exact hK.out _ _ _ rfl rfl rfl (Below.refl _ _)
              simp only [List.setIfInBounds_toArray, List.set_cons_zero, List.set_cons_succ]
              refine obs_step (Eq.trans (by simp only [List.getElem?_toArray, List.getElem?_cons_succ, List.getElem?_cons_zero]; exact rfl) rfl) rfl (fun w' hS hV K hK => ?_) ?_
              · obtain ⟨q0, q1⟩ := hS.1.two; obtain ⟨hoc, hof⟩ := hAt.out _ hS.2.1; have q2 := hS.2.2.1; have q3 := hS.2.2.2
                go_simp
                exact hK.out _ _ _ rfl rfl rfl (Below.refl _ _)
              simp only [List.setIfInBounds_toArray, List.set_cons_zero, List.set_cons_succ]
              refine obs_step (Eq.trans (by simp only [List.getElem?_toArray, List.getElem?_cons_succ, List.getElem?_cons_zero]; exact rfl) rfl) rfl (fun w' hS hV K hK => ?_) ?_
              · simp only [List.mem_cons, List.not_mem_nil, or_false, forall_eq_or_imp, forall_eq, List.getD_cons_succ, List.getD_cons_zero, VIs, VAny] at hV
                obtain ⟨e10, e11⟩ := hV
                obtain ⟨q0, q1⟩ := hS.1.two; obtain ⟨hoc, hof⟩ := hAt.out _ hS.2.1; have q2 := hS.2.2.1; have q3 := hS.2.2.2
                go_simp
                exact hK.out _ _ _ rfl rfl rfl (Below.refl _ _)
              simp only [List.setIfInBounds_toArray, List.set_cons_zero, List.set_cons_succ]
              refine obs_step (Eq.trans (by simp only [List.getElem?_toArray, List.getElem?_cons_succ, List.getElem?_cons_zero]; exact rfl) rfl) rfl (fun w' hS hV K hK => ?_) ?_
              · simp only [List.mem_cons, List.not_mem_nil, or_false, forall_eq_or_imp, forall_eq, List.getD_cons_succ, List.getD_cons_zero, VIs, VAny] at hV
                obtain ⟨e10, e11, e12⟩ := hV
                obtain ⟨q0, q1⟩ := hS.1.two; obtain ⟨hoc, hof⟩ := hAt.out _ hS.2.1; have q2 := hS.2.2.1; have q3 := hS.2.2.2
                go_simp
                exact hK.out _ _ _ rfl rfl rfl (Below.refl _ _)
              simp only [List.setIfInBounds_toArray, List.set_cons_zero, List.set_cons_succ]
              refine obs_step (Eq.trans (by simp only [List.getElem?_toArray, List.getElem?_cons_succ, List.getElem?_cons_zero]; exact rfl) rfl) rfl (fun w' hS hV K hK => ?_) ?_
              · obtain ⟨q0, q1⟩ := hS.1.two; obtain ⟨hoc, hof⟩ := hAt.out _ hS.2.1; have q2 := hS.2.2.1; have q3 := hS.2.2.2
                go_simp
                exact hK.out _ _ _ rfl rfl rfl (Below.refl _ _)
              simp only [List.setIfInBounds_toArray, List.set_cons_zero, List.set_cons_succ]
              refine obs_step (Eq.trans (by simp only [List.getElem?_toArray, List.getElem?_cons_succ, List.getElem?_cons_zero]; exact rfl) rfl) rfl (fun w' hS hV K hK => ?_) ?_
              · obtain ⟨q0, q1⟩ := hS.1.two; obtain ⟨hoc, hof⟩ := hAt.out _ hS.2.1; have q2 := hS.2.2.1; have q3 := hS.2.2.2
                go_simp
                exact hK.out _ _ _ rfl rfl rfl (Below.refl _ _)
              simp only [List.setIfInBounds_toArray, List.set_cons_zero, List.set_cons_succ]
              refine obs_step (Eq.trans (by simp only [List.getElem?_toArray, List.getElem?_cons_succ, List.getElem?_cons_zero]; exact rfl) rfl) rfl (fun w' hS hV K hK => ?_) ?_
              · simp only [List.mem_cons, List.not_mem_nil, or_false, forall_eq_or_imp, forall_eq, List.getD_cons_succ, List.getD_cons_zero, VIs, VAny] at hV
                obtain ⟨e14, e15⟩ := hV
                obtain ⟨q0, q1⟩ := hS.1.two; obtain ⟨hoc, hof⟩ := hAt.out _ hS.2.1; have q2 := hS.2.2.1; have q3 := hS.2.2.2
                go_simp
                exact hK.out _ _ _ rfl rfl rfl (Below.refl _ _)
              simp only [List.setIfInBounds_toArray, List.set_cons_zero, List.set_cons_succ]
              refine obs_step (Eq.trans (by simp only [List.getElem?_toArray, List.getElem?_cons_succ, List.getElem?_cons_zero]; exact rfl) rfl) rfl (fun w' hS hV K hK => ?_) ?_
              · simp only [List.mem_cons, List.not_mem_nil, or_false, forall_eq_or_imp, forall_eq, List.getD_cons_succ, List.getD_cons_zero, VIs, VAny] at hV
                obtain ⟨e14, e15, e16⟩ := hV
                obtain ⟨q0, q1⟩ := hS.1.two; obtain ⟨hoc, hof⟩ := hAt.out _ hS.2.1; have q2 := hS.2.2.1; have q3 := hS.2.2.2
                go_simp
                exact hK.out _ _ _ rfl rfl rfl (Below.refl _ _)
              simp only [List.setIfInBounds_toArray, List.set_cons_zero, List.set_cons_succ]
              refine obs_step (Eq.trans (by simp only [List.getElem?_toArray, List.getElem?_cons_succ, List.getElem?_cons_zero]; exact rfl) rfl) rfl (fun w' hS hV K hK => ?_) ?_
              · simp only [List.mem_cons, List.not_mem_nil, or_false, forall_eq_or_imp, forall_eq, List.getD_cons_succ, List.getD_cons_zero, VIs, VAny] at hV
                obtain ⟨e10, e11, e12, e13, e14, e15, e16, e17⟩ := hV
                obtain ⟨q0, q1⟩ := hS.1.two; obtain ⟨hoc, hof⟩ := hAt.out _ hS.2.1; have q2 := hS.2.2.1; have q3 := hS.2.2.2
                go_simp
                exact hK.out _ _ _ rfl rfl rfl (Below.refl _ _)
              simp only [List.setIfInBounds_toArray, List.set_cons_zero, List.set_cons_succ]
              refine obs_step (Eq.trans (by simp only [List.getElem?_toArray, List.getElem?_cons_succ, List.getElem?_cons_zero]; exact rfl) rfl) rfl (fun w' hS hV K hK => ?_) ?_
              · obtain ⟨q0, q1⟩ := hS.1.two; obtain ⟨hoc, hof⟩ := hAt.out _ hS.2.1; have q2 := hS.2.2.1; have q3 := hS.2.2.2
                go_simp
                exact hK.out _ _ _ rfl rfl rfl (Below.refl _ _)
              simp only [List.setIfInBounds_toArray, List.set_cons_zero, List.set_cons_succ]
              refine obs_step (Eq.trans (by simp only [List.getElem?_toArray, List.getElem?_cons_succ, List.getElem?_cons_zero]; exact rfl) rfl) rfl (fun w' hS hV K hK => ?_) ?_
              · simp only [List.mem_cons, List.not_mem_nil, or_false, forall_eq, List.getD_cons_succ, List.getD_cons_zero, VIs, VAny] at hV
                obtain e19 := hV
                obtain ⟨q0, q1⟩ := hS.1.two; obtain ⟨hoc, hof⟩ := hAt.out _ hS.2.1; have q2 := hS.2.2.1; have q3 := hS.2.2.2
                go_simp
                exact hK.out _ _ _ rfl rfl rfl (Below.refl _ _)
              simp only [List.setIfInBounds_toArray, List.set_cons_zero, List.set_cons_succ]
              refine obs_step (Eq.trans (by simp only [List.getElem?_toArray, List.getElem?_cons_succ, List.getElem?_cons_zero]; exact rfl) rfl) rfl (fun w' hS hV K hK => ?_) ?_
              · simp only [List.mem_cons, List.not_mem_nil, or_false, forall_eq_or_imp, forall_eq, List.getD_cons_succ, List.getD_cons_zero, VIs, VAny] at hV
                obtain ⟨e10, e11, e12, e13, e14, e15, e16, e17, e18, e19, e20⟩ := hV
                obtain ⟨q0, q1⟩ := hS.1.two; obtain ⟨hoc, hof⟩ := hAt.out _ hS.2.1; have q2 := hS.2.2.1; have q3 := hS.2.2.2
                go_simp
                exact hK.out _ _ _ rfl rfl rfl (Below.refl _ _)
              simp only [List.setIfInBounds_toArray, List.set_cons_zero, List.set_cons_succ]
              refine obs_step (Eq.trans (by simp only [List.getElem?_toArray, List.getElem?_cons_succ, List.getElem?_cons_zero]; exact rfl) rfl) rfl (fun w' hS hV K hK => ?_) ?_
              · obtain ⟨q0, q1⟩ := hS.1.two; obtain ⟨hoc, hof⟩ := hAt.out _ hS.2.1; have q2 := hS.2.2.1; have q3 := hS.2.2.2
                go_simp
                exact hK.out _ _ _ rfl rfl rfl (Below.refl _ _)
              simp only [List.setIfInBounds_toArray, List.set_cons_zero, List.set_cons_succ]
              refine obs_step (Eq.trans (by simp only [List.getElem?_toArray, List.getElem?_cons_succ, List.getElem?_cons_zero]; exact rfl) rfl) rfl (fun w' hS hV K hK => ?_) ?_
              · obtain ⟨q0, q1⟩ := hS.1.two; obtain ⟨hoc, hof⟩ := hAt.out _ hS.2.1; have q2 := hS.2.2.1; have q3 := hS.2.2.2
                go_simp
                exact hK.out _ _ _ rfl rfl rfl (Below.refl _ _)
              simp only [List.setIfInBounds_toArray, List.set_cons_zero, List.set_cons_succ]
              refine obs_step (Eq.trans (by simp only [List.getElem?_toArray, List.getElem?_cons_succ, List.getElem?_cons_zero]; exact rfl) rfl) rfl (fun w' hS hV K hK => ?_) ?_
              · obtain ⟨q0, q1⟩ := hS.1.two; obtain ⟨hoc, hof⟩ := hAt.out _ hS.2.1; have q2 := hS.2.2.1; have q3 := hS.2.2.2
                go_simp
                exact hK.out _ _ _ rfl rfl rfl (Below.refl _ _)
              simp only [List.setIfInBounds_toArray, List.set_cons_zero, List.set_cons_succ]
              refine obs_step (Eq.trans (by simp only [List.getElem?_toArray, List.getElem?_cons_succ, List.getElem?_cons_zero]; exact rfl) rfl) rfl (fun w' hS hV K hK => ?_) ?_
              · simp only [List.mem_cons, List.not_mem_nil, or_false, forall_eq_or_imp, forall_eq, List.getD_cons_succ, List.getD_cons_zero, VIs, VAny] at hV
                obtain ⟨e22, e23, e24⟩ := hV
                obtain ⟨q0, q1⟩ := hS.1.two; obtain ⟨hoc, hof⟩ := hAt.out _ hS.2.1; have q2 := hS.2.2.1; have q3 := hS.2.2.2
                go_simp
                refine (hF.out _ hS.2.1).mono ?_
                rintro e v1 ⟨rfl, hb⟩
                exact hK.out _ _ _ rfl rfl rfl hb
              simp only [List.setIfInBounds_toArray, List.set_cons_zero, List.set_cons_succ]
              refine obs_step (Eq.trans (by simp only [List.getElem?_toArray, List.getElem?_cons_succ, List.getElem?_cons_zero]; exact rfl) rfl) rfl (fun w' hS hV K hK => ?_) ?_
              · simp only [List.mem_cons, List.not_mem_nil, or_false, forall_eq_or_imp, forall_eq, List.getD_cons_succ, List.getD_cons_zero, VIs, VAny] at hV
                obtain ⟨e10, e11, e12, e13, e14, e15, e16, e17, e18, e19, e20, e21, e22, e23, e24, e25⟩ := hV
                obtain ⟨q0, q1⟩ := hS.1.two; obtain ⟨hoc, hof⟩ := hAt.out _ hS.2.1; have q2 := hS.2.2.1; have q3 := hS.2.2.2
                go_simp
                exact hK.out _ _ _ rfl rfl rfl (Below.refl _ _)
              simp only [List.setIfInBounds_toArray, List.set_cons_zero, List.set_cons_succ]
              refine obs_step (Eq.trans (by simp only [List.getElem?_toArray, List.getElem?_cons_succ, List.getElem?_cons_zero]; exact rfl) rfl) rfl (fun w' hS hV K hK => ?_) ?_
              · simp only [List.mem_cons, List.not_mem_nil, or_false, forall_eq_or_imp, forall_eq, List.getD_cons_succ, List.getD_cons_zero, VIs, VAny] at hV
                obtain ⟨e4, e5, e6, e7, e8, e9, e10, e11, e12, e13, e14, e15, e16, e17, e18, e19, e20, e21, e22, e23, e24, e25, e26⟩ := hV
                obtain ⟨q0, q1⟩ := hS.1.two; obtain ⟨hoc, hof⟩ := hAt.out _ hS.2.1; have q2 := hS.2.2.1; have q3 := hS.2.2.2
                go_simp
                exact hK.out _ _ _ rfl rfl rfl (Below.refl _ _)
              simp only [List.setIfInBounds_toArray, List.set_cons_zero, List.set_cons_succ]
              refine obs_step (Eq.trans (by simp only [List.getElem?_toArray, List.getElem?_cons_succ, List.getElem?_cons_zero]; exact rfl) rfl) rfl (fun w' hS hV K hK => ?_) ?_
              · obtain ⟨q0, q1⟩ := hS.1.two; obtain ⟨hoc, hof⟩ := hAt.out _ hS.2.1; have q2 := hS.2.2.1; have q3 := hS.2.2.2
                go_simp
                exact hK.out _ _ _ rfl rfl rfl (Below.refl _ _)
              simp only [List.setIfInBounds_toArray, List.set_cons_zero, List.set_cons_succ]
              refine obs_step (Eq.trans (by simp only [List.getElem?_toArray, List.getElem?_cons_succ, List.getElem?_cons_zero]; exact rfl) rfl) rfl (fun w' hS hV K hK => ?_) ?_
              · simp only [List.mem_cons, List.not_mem_nil, or_false, forall_eq, List.getD_cons_succ, List.getD_cons_zero, VIs, VAny] at hV
                obtain e28 := hV
                obtain ⟨q0, q1⟩ := hS.1.two; obtain ⟨hoc, hof⟩ := hAt.out _ hS.2.1; have q2 := hS.2.2.1; have q3 := hS.2.2.2
                go_simp
                exact hK.out _ _ _ rfl rfl rfl (Below.refl _ _)
              simp only [List.setIfInBounds_toArray, List.set_cons_zero, List.set_cons_succ]
              refine obs_step (Eq.trans (by simp only [List.getElem?_toArray, List.getElem?_cons_succ, List.getElem?_cons_zero]; exact rfl) rfl) rfl (fun w' hS hV K hK => ?_) ?_
              · simp only [List.mem_cons, List.not_mem_nil, or_false, forall_eq_or_imp, forall_eq, List.getD_cons_succ, List.getD_cons_zero, VIs, VAny] at hV
                obtain ⟨e4, e5, e6, e7, e8, e9, e10, e11, e12, e13, e14, e15, e16, e17, e18, e19, e20, e21, e22, e23, e24, e25, e26, e27, e28, e29⟩ := hV
                obtain ⟨q0, q1⟩ := hS.1.two; obtain ⟨hoc, hof⟩ := hAt.out _ hS.2.1; have q2 := hS.2.2.1; have q3 := hS.2.2.2
                go_simp
                exact hK.out _ _ _ rfl rfl rfl (Below.refl _ _)
              simp only [List.setIfInBounds_toArray, List.set_cons_zero, List.set_cons_succ]
              refine obs_step (Eq.trans (by simp only [List.getElem?_toArray, List.getElem?_cons_succ, List.getElem?_cons_zero]; exact rfl) rfl) rfl (fun w' hS hV K hK => ?_) ?_
              · simp only [List.mem_cons, List.not_mem_nil, or_false, forall_eq_or_imp, forall_eq, List.getD_cons_succ, List.getD_cons_zero, VIs, VAny] at hV
                obtain ⟨e0, e1, e2, e3⟩ := hV
                obtain ⟨q0, q1⟩ := hS.1.two; obtain ⟨hoc, hof⟩ := hAt.out _ hS.2.1; have q2 := hS.2.2.1; have q3 := hS.2.2.2
                go_simp
                exact hK.out _ _ _ rfl rfl rfl (Below.refl _ _)
              simp only [List.setIfInBounds_toArray, List.set_cons_zero, List.set_cons_succ]
              refine fun w' hS hV => ?_
              have hV := fun i hi => hV i (List.mem_range.1 hi)
              simp only [List.range, List.range.loop, List.mem_cons, List.not_mem_nil, or_false, forall_eq_or_imp, forall_eq, List.getD_cons_succ, List.getD_cons_zero, VIs, VAny] at hV
              obtain ⟨e0, e1, e2, e3, e4, e5, e6, e7, e8, e9, e10, e11, e12, e13, e14, e15, e16, e17, e18, e19, e20, e21, e22, e23, e24, e25, e26, e27, e28, e29, e30, e31⟩ := hV
              simp only [e0, e1, e2, e3, e4, e5, e6, e7, e8, e9, e10, e11, e12, e13, e14, e15, e16, e17, e18, e19, e20, e21, e22, e23, e24, e25, e26, e27, e28, e29, e30, e31]
              clear e0 e1 e2 e3 e4 e5 e6 e7 e8 e9 e10 e11 e12 e13 e14 e15 e16 e17 e18 e19 e20 e21 e22 e23 e24 e25 e26 e27 e28 e29 e30 e31
              obtain ⟨hk4, hO, s3, s4⟩ := hS
              obtain ⟨hoc, hof⟩ := hAt.out _ hO
              refine any_one (j := 32) (by kernel_rfl) (Eq.trans (by simp only [List.getElem?_toArray, List.getElem?_cons_succ, List.getElem?_cons_zero]; exact rfl) rfl) (fun K hK => ?_)
              go_simp
              refine hK.out _ _ (wpAny_done (by kernel_rfl) ?_ _)
              have hset := (hO.set (k ^^^ j) (.int .i64 ((v0 + xs[k] * ys[j] % P * fac P sq k j) % P))).1
              rw [ints_set] at hset
              have hkn := hk4.far (p := ⟨g, k ^^^ j, none⟩) HNE.out.1.symm (.int .i64 ((v0 + xs[k] * ys[j] % P * fac P sq k j) % P))
              clear W1 W2 W3 T1 T2 hoc hof hO hk4
              go_wp2
              go_roundw
              case rel => exact ⟨j + 1, by omega, by go_num, by rw [addRow_succ]; unfold addPair; rw [if_pos ⟨HPair.out.1, HPair.out.2.1, rfl⟩, ← HV0.out, hxn.out, hyn.out, ← mod_mul_add v0 (xs[k] * ys[j]) (fac P sq k j) P]; exact hset, hkn⟩
              case measure => simp [intOf]; omega
        · obtain rfl : j = pw n := by omega
          have HM := Lib.hid hM3
          clear hM3
          go_wp2
          go_roundw
          case rel => exact ⟨k + 1, by omega, by go_num, by rw [addRows_succ, Hy.out, ← HL0.out]; exact HM.out, hk3⟩
          case measure => simp [intOf]; omega
    · obtain rfl : k = pw n := by omega
      go_wp2
      go_ret
      exact ⟨_, _, rfl, by unfold prodL; rw [Hx.out]; exact hM2⟩
end Go.Proofs.YticofgmmjecleaaGreatDoor
namespace Go.Proofs.YticofgmmjecleaaGreatDoor
open Go.RowKit
theorem and_val : ∀ x : Nat, x < 64 → ∀ y : Nat, y < 64 → bits BinOp.and IntKind.i64 (x : Int) (y : Int) = ((x &&& y : Nat) : Int) := by decide +kernel
theorem andNot_all : ∀ x : Nat, x < 64 → ∀ y : Nat, y < 64 → (bits BinOp.andNot IntKind.i64 (x : Int) (y : Int) == 0) = (x &&& y == x) := by decide +kernel
/-- The left contraction of a multivector into another one. -/
def contrL (p : Int) (sq xs ys : List Int) : List Int := prodL p sq (fun a b => a &&& b == a) xs ys
theorem wedgeL_len (p : Int) (sq xs ys : List Int) : (wedgeL p sq xs ys).length = xs.length := prodL_len _ _ _ _ _
theorem contrL_len (p : Int) (sq xs ys : List Int) : (contrL p sq xs ys).length = xs.length := prodL_len _ _ _ _ _
theorem wedgeL_nums {p : Int} (hp : 0 < p) (sq xs ys : List Int) : NumsL p (wedgeL p sq xs ys) := prodL_nums sq _ xs ys hp
theorem contrL_nums {p : Int} (hp : 0 < p) (sq xs ys : List Int) : NumsL p (contrL p sq xs ys) := prodL_nums sq _ xs ys hp
set_option maxHeartbeats 400000 in
set_option maxRecDepth 8000 in
theorem within_takes : Takes 172 (fun a b => a &&& b == a) := by
  intro a b w h1 h2
  have h := andNot_all a h1 b h2
  go_enter Tryz.func172, Tryz.ntmps172
  go_wp2
  go_ret
  exact ⟨rfl, rfl⟩
set_option maxRecDepth 8000 in
set_option maxHeartbeats 800000 in
set_option maxRecDepth 8000 in
theorem contract_any (P : Int) (A : Option Addr) (n c : Nat) (sq : List Int) (X : Option Addr) (cx : Nat) (xs : List Int) (Y : Option Addr) (cy : Nat) (ys : List Int) (w : World) (hp : 2 ≤ P) (hp2 : P ≤ 13) (hn : n ≤ 6)
    (ha : Rd w A n (ints sq)) (hs : NumsL P sq) (hx : Rd w X (pw n) (ints xs)) (hxs : NumsL P xs) (hy : Rd w Y (pw n) (ints ys)) (hys : NumsL P ys) :
    Calls Tryz.prog 149 #[.agg #[.int .i64 P, .slice A n c], .slice X (pw n) cx, .slice Y (pw n) cy] w fun e w' => ∃ A' c', e = .returned (.slice A' (pw n) c') ∧ MkI w w' A' (pw n) c' (contrL P sq xs ys) := by
  have hB0 : Below w.heap.size w (w.alloc (.cells #[.int .i64 P, .slice A n c] 28)) := (Below.refl _ w).alloc (Nat.le_refl _) _
  have hcall := product_any 172 _ within_takes (fun _ _ => rfl) P A n c sq X cx xs Y cy ys _ hp hp2 hn (ha.below hB0) hs (hx.below hB0) hxs (hy.below hB0) hys
  go_enter Tryz.func149, Tryz.ntmps149
  go_wp2_with (go_at_call 142; refine hcall.mono ?_; rintro e w2 ⟨G2, d2, rfl, hM3⟩)
  go_ret
  exact ⟨_, _, rfl, hM3.after hB0⟩
theorem set_getD_same (L : List Int) (i : Nat) : L.set i (L.getD i 0) = L := by
  apply list_ext_getD 0 (by simp)
  intro j hj
  rw [List.length_set] at hj
  rw [getD_set]
  split
  · rename_i h; rw [h.1]
  · rfl
/-- A pair that is taken, whatever its numbers. -/
theorem addPair_all {p : Int} {sq : List Int} {t : Nat → Nat → Bool} {x y : List Int} {a : Nat} {out : List Int} {b : Nat} (hp : 0 < p) (hN : NumsL p out) (ht : t a b = true) :
    out.set (a ^^^ b) ((out.getD (a ^^^ b) 0 + x.getD a 0 * y.getD b 0 * fac p sq a b) % p) = addPair p sq t x y a out b := by
  unfold addPair
  by_cases h : x.getD a 0 ≠ 0 ∧ y.getD b 0 ≠ 0 ∧ t a b = true
  · rw [if_pos h]
  · rw [if_neg h]
    have h0 : x.getD a 0 * y.getD b 0 = 0 := by
      by_cases hx : x.getD a 0 = 0
      · rw [hx, Int.zero_mul]
      · by_cases hy : y.getD b 0 = 0
        · rw [hy, Int.mul_zero]
        · exact absurd ⟨hx, hy, ht⟩ h
    obtain ⟨v1, v2⟩ := hN.getD hp (a ^^^ b)
    rw [h0, Int.zero_mul, Int.add_zero, Int.emod_eq_of_lt v1 v2, set_getD_same]
theorem addPair_none {p : Int} {sq : List Int} {t : Nat → Nat → Bool} {x y : List Int} {a : Nat} {out : List Int} {b : Nat} (ht : t a b = false) : addPair p sq t x y a out b = out := by
  unfold addPair
  rw [if_neg (fun h => by rw [ht] at h; exact absurd h.2.2 (by decide))]
set_option maxRecDepth 2000 in
set_option maxHeartbeats 3200000 in
set_option maxRecDepth 8000 in
theorem l05Kind_0 (P : Int) (A : Option Addr) (n c : Nat) (sq : List Int) (X : Option Addr) (cx : Nat) (xs : List Int) (Y : Option Addr) (cy : Nat) (ys : List Int) (w : World) (hp : 2 ≤ P) (hp2 : P ≤ 13) (hn : n ≤ 6)
    (ha : Rd w A n (ints sq)) (hs : NumsL P sq) (hx : Rd w X (pw n) (ints xs)) (hxs : NumsL P xs) (hy : Rd w Y (pw n) (ints ys)) (hys : NumsL P ys) :
    Calls Tryz.prog 168 #[.agg #[.int .i64 P, .slice A n c], .slice X (pw n) cx, .slice Y (pw n) cy, .int .i64 0] w fun e w' => ∃ A' c', e = .returned (.slice A' (pw n) c') ∧ MkI w w' A' (pw n) c' (wedgeL P sq xs ys) := by
  have hxl : xs.length = pw n := by have := hx.1; rwa [ints_length] at this
  have hyl : ys.length = pw n := by have := hy.1; rwa [ints_length] at this
  have Hx := Lib.hid hxl; clear hxl
  have Hy := Lib.hid hyl; clear hyl
  obtain ⟨t, ht⟩ : ∃ t : Nat → Nat → Bool, t = fun a b => a &&& b == 0 := ⟨_, rfl⟩
  have HTK : Hid (∀ a b, t a b = (fun a b => a &&& b == 0) a b) := Lib.hid (fun a b => by rw [ht])
  have HDL : Hid (wedgeL P sq xs ys = addRows P sq t xs ys (List.replicate (pw n) 0) (pw n)) := Lib.hid (by unfold wedgeL prodL; rw [Hx.out, ht])
  clear ht
  have hpw : pw n ≤ 64 := pw_le hn
  have hmk := make_i (P := Tryz.prog) 22 2 Tryz.underlying22 info_i (pw n) (by omega)
  have hB0 : Below w.heap.size w (w.alloc (.cells #[.int .i64 P, .slice A n c] 28)) := (Below.refl _ w).alloc (Nat.le_refl _) _
  have hM := Mk.made (E := 2) (n := pw n) (z := .int .i64 0) hB0 (by simp only [maxLen]; omega)
  rw [ints_replicate] at hM
  have hk0 : Blk ((w.alloc (.cells #[.int .i64 P, .slice A n c] 28)).alloc (.cells (madeCells #[.int .i64 0] (pw n)) 2)) w.heap.size 28 #[.int .i64 P, .slice A n c] := (Blk.new w _ _).alloc _
  go_enter Tryz.func168, Tryz.ntmps168
  go_wp2
  clear hmk
  obtain ⟨w1, hw1⟩ : ∃ W, W = (w.alloc (.cells #[.int .i64 P, .slice A n c] 28)).alloc (.cells (madeCells #[.int .i64 0] (pw n)) 2) := ⟨_, rfl⟩
  rw [← hw1] at hM hk0 ⊢
  rw [World.size_alloc] at hM
  clear hB0 hw1
  obtain ⟨g, hg⟩ : ∃ g, g = w.heap.size + 1 := ⟨_, rfl⟩
  rw [← hg] at hM ⊢
  have hg1 : w.heap.size + 1 ≤ g := by omega
  clear hg
  go_loopw [10, 11] (fun i _ wr => ∃ k : Nat, k ≤ pw n ∧ i = .int .i64 k ∧ MkI w wr (some ⟨g, 0, none⟩) (pw n) (pw n) (addRows P sq t xs ys (List.replicate (pw n) 0) k) ∧ Blk wr w.heap.size 28 #[.int .i64 P, .slice A n c]) (fun i _ _ => pw n - (intOf i).toNat)
  case atStart => exact ⟨0, by omega, rfl, by simpa [addRows] using hM, hk0⟩
  case round =>
    obtain ⟨k, hk, rfl, hM2, hk2⟩ := hrel
    clear hM hk0
    by_cases hlt : k < pw n
    · obtain ⟨gx, ox, hX, hxk, hcw⟩ := hx.int hlt
      subst hX
      obtain ⟨x1, x2⟩ := hxs _ (List.getElem_mem hxk)
      have hxn : Hid (xs.getD k 0 = xs[k]) := Lib.hid (by rw [List.getD_eq_getElem?_getD, List.getElem?_eq_getElem hxk]; rfl)
      have hgx := World.block_lt_of_cell? _ _ hcw
      have HGX : Hid (g ≠ gx) := Lib.hid (by simp at hgx; omega)
      have HCW := Lib.hid hcw
      clear hcw hgx
      have hR0 : MkI w wr (some ⟨g, 0, none⟩) (pw n) (pw n) (addRow P sq t xs ys k (addRows P sq t xs ys (List.replicate (pw n) 0) k) 0) := by simpa [addRow] using hM2
      have hN0 : NumsL P (addRows P sq t xs ys (List.replicate (pw n) 0) k) := addRows_nums sq _ xs ys k (by omega) (NumsL.replicate (by omega) _)
      obtain ⟨L0, hL0⟩ : ∃ L, L = addRows P sq t xs ys (List.replicate (pw n) 0) k := ⟨_, rfl⟩
      rw [← hL0] at hR0 hN0
      have HL0 := Lib.hid hL0
      have HN0 := Lib.hid hN0
      clear hM2 hL0 hN0
      go_wp2
      go_loopw [11] (fun i wr => ∃ j : Nat, j ≤ pw n ∧ i = .int .i64 j ∧ MkI w wr (some ⟨g, 0, none⟩) (pw n) (pw n) (addRow P sq t xs ys k L0 j) ∧ Blk wr w.heap.size 28 #[.int .i64 P, .slice A n c]) (fun i _ => pw n - (intOf i).toNat)
      case atStart => exact ⟨0, by omega, rfl, hR0, hk2⟩
      case round =>
        clear hR0 hk2
        obtain ⟨j, hj, rfl, hM3, hk3⟩ := hrel
        have hcx : wr.cell? ⟨gx, ox + k, none⟩ = some (.int .i64 xs[k]) := (hM3.b.cell (World.block_lt_of_cell? _ _ HCW.out)).trans HCW.out
        by_cases hlj : j < pw n
        · obtain ⟨gy, oy, hY, hyj, hcyw⟩ := hy.int hlj
          subst hY
          have hgy := World.block_lt_of_cell? _ _ hcyw
          have HGY : Hid (g ≠ gy) := Lib.hid (by simp at hgy; omega)
          have hcy : wr.cell? ⟨gy, oy + j, none⟩ = some (.int .i64 ys[j]) := (hM3.b.cell (World.block_lt_of_cell? _ _ hcyw)).trans hcyw
          clear hcyw hgy
          obtain ⟨y1, y2⟩ := hys _ (List.getElem_mem hyj)
          have hyn : Hid (ys.getD j 0 = ys[j]) := Lib.hid (by rw [List.getD_eq_getElem?_getD, List.getElem?_eq_getElem hyj]; rfl)
          have hxa := and_val k (by omega) j (by omega)
          have HTKJ := Lib.hid (HTK.out k j)
          obtain ⟨cm, hcm⟩ : ∃ cm, cm = k &&& j := ⟨_, rfl⟩
          rw [← hcm] at hxa
          have HCM : Hid (cm = k &&& j) := Lib.hid hcm
          clear hcm
          by_cases hcc : cm = 0
          case neg =>
            have HF0 : Hid (t k j = false) := Lib.hid (by rw [HTKJ.out]; show (_ == _) = false; rw [← HCM.out]; simpa using hcc)
            have HM := Lib.hid hM3
            have HK3 := Lib.hid hk3
            clear hM3 hk3
            go_wp2
            go_roundw
            case rel => exact ⟨j + 1, by omega, by go_num, by rw [addRow_succ, addPair_none HF0.out]; exact HM.out, HK3.out⟩
            case measure => simp [intOf]; omega
          case pos =>
            have HF1 : Hid (t k j = true) := Lib.hid (by rw [HTKJ.out]; show (_ == _) = true; rw [← HCM.out]; simpa using hcc)
            have hidx : k ^^^ j < pw n := xor_lt hlt hlj
            have hxo := xor_all k (by omega) j (by omega)
            have HNR := Lib.hid (addRow_nums sq t xs ys k j (by omega) HN0.out)
            have hvb := HNR.out.getD (by omega) (k ^^^ j)
            obtain ⟨hoc, hof⟩ := mkI_at hM3.drew hidx
            obtain ⟨v0, hv0⟩ : ∃ v, v = (addRow P sq t xs ys k L0 j).getD (k ^^^ j) 0 := ⟨_, rfl⟩
            rw [← hv0] at hvb hoc
            obtain ⟨v1, v2⟩ := hvb
            have HV0 := Lib.hid hv0
            have hAt : Hid (∀ w', MkI w w' (some ⟨g, 0, none⟩) (pw n) (pw n) (addRow P sq t xs ys k L0 j) → w'.cell? ⟨g, k ^^^ j, none⟩ = some (.int .i64 v0) ∧ w'.frozen? ⟨g, k ^^^ j, none⟩ = false) :=
              Lib.hid (fun w' h => by rw [HV0.out]; exact mkI_at h hidx)
            clear hv0
            obtain ⟨f1, f2⟩ := fac_bound P sq k j hp
            obtain ⟨m1, m2⟩ := mul_small x1 (show xs[k] ≤ 13 by omega) y1 (show ys[j] ≤ 13 by omega)
            obtain ⟨r1, r2⟩ := emod_small (xs[k] * ys[j]) P (by omega)
            obtain ⟨m3, m4⟩ := mul_small r1 (show xs[k] * ys[j] % P ≤ 13 by omega) f1 (show fac P sq k j ≤ 13 by omega)
            have HNE : Hid (g ≠ w.heap.size ∧ g ≠ w.heap.size ∧ g ≠ gx ∧ g ≠ gy) := Lib.hid ⟨by omega, by omega, HGX.out, HGY.out⟩
            have hF : Hid (∀ w', MkI w w' (some ⟨g, 0, none⟩) (pw n) (pw n) (addRow P sq t xs ys k L0 j) → Calls Tryz.prog 135 #[.agg #[.int .i64 P, .slice A n c], .int .i64 k, .int .i64 j] w' fun e w'' => e = .returned (.int .i64 (fac P sq k j)) ∧ Below w'.heap.size w' w'') :=
              Lib.hid (fun w' h => l04Blades_any P A n c sq k j w' hp hp2 hn (ha.below h.b) hs (by omega) (by omega))
            have W1 := i64_fit (xs[k] * ys[j]) (by omega) (by omega)
            have W2 := i64_fit (xs[k] * ys[j] % P * fac P sq k j) (by omega) (by omega)
            have W3 := i64_fit (v0 + xs[k] * ys[j] % P * fac P sq k j) (by omega) (by omega)
            have T1 := Int.tmod_eq_emod_of_nonneg (b := P) m1
            have T2 := Int.tmod_eq_emod_of_nonneg (a := (v0 + xs[k] * ys[j] % P * fac P sq k j)) (b := P) (by omega)
            obtain ⟨kc0, kc1⟩ := hk3.two
            have hoc2 : wr.cell? ⟨g, k ^^^ j, none⟩ = some (.int .i64 v0) := hoc
            have hof2 : wr.frozen? ⟨g, k ^^^ j, none⟩ = false := hof
            have hP0 : (P == 0) = false := by simp; omega
            have hP1 : (P == -1) = false := by simp; omega
            have hP2 : ¬ P = 0 := by omega
            have hO := hM3.drew
            have hk4 := hk3.drew
            go_wp2
            have i1 : (0 : Int) ≤ ((k ^^^ j : Nat) : Int) := by omega
            have i2 : ((k ^^^ j : Nat) : Int) < ((pw n : Nat) : Int) := by omega
            have i3 : (0 : Int) ≤ (k : Int) := by omega
            have i4 : (k : Int) < ((pw n : Nat) : Int) := by omega
            have i5 : (0 : Int) ≤ (j : Int) := by omega
            have i6 : (j : Int) < ((pw n : Nat) : Int) := by omega
            refine wp_obs 32 [[], [], [], [1, 2], [], [], [], [5, 6], [4, 5, 6, 7], [4, 5, 6, 7, 8], [], [], [10, 11], [10, 11, 12], [], [], [14, 15], [14, 15, 16], [10, 11, 12, 13, 14, 15, 16, 17], [], [19], [10, 11, 12, 13, 14, 15, 16, 17, 18, 19, 20], [], [], [], [22, 23, 24], [10, 11, 12, 13, 14, 15, 16, 17, 18, 19, 20, 21, 22, 23, 24, 25], [4, 5, 6, 7, 8, 9, 10, 11, 12, 13, 14, 15, 16, 17, 18, 19, 20, 21, 22, 23, 24, 25, 26], [], [28], [4, 5, 6, 7, 8, 9, 10, 11, 12, 13, 14, 15, 16, 17, 18, 19, 20, 21, 22, 23, 24, 25, 26, 27, 28, 29], [0, 1, 2, 3], [0, 1, 2, 3, 4, 5, 6, 7, 8, 9, 10, 11, 12, 13, 14, 15, 16, 17, 18, 19, 20, 21, 22, 23, 24, 25, 26, 27, 28, 29, 30, 31]] [VIs (.slice (some ⟨g, 0, none⟩) (pw n) (pw n)), VIs (.int .i64 (k)), VIs (.int .i64 (j)), VIs (.int .i64 ((k ^^^ j : Nat))), VIs (.slice (some ⟨g, 0, none⟩) (pw n) (pw n)), VIs (.int .i64 (k)), VIs (.int .i64 (j)), VIs (.int .i64 ((k ^^^ j : Nat))), VIs (.pointer (some ⟨g, k ^^^ j, none⟩)), VIs (.int .i64 (v0)), VIs (.slice (some ⟨gx, ox, none⟩) (pw n) cx), VIs (.int .i64 (k)), VIs (.pointer (some ⟨gx, ox + k, none⟩)), VIs (.int .i64 (xs[k])), VIs (.slice (some ⟨gy, oy, none⟩) (pw n) cy), VIs (.int .i64 (j)), VIs (.pointer (some ⟨gy, oy + j, none⟩)), VIs (.int .i64 (ys[j])), VIs (.int .i64 (xs[k] * ys[j])), VIs (.pointer (some ⟨w.heap.size, 0, none⟩)), VIs (.int .i64 (P)), VIs (.int .i64 (xs[k] * ys[j] % P)), VIs (.agg #[.int .i64 P, .slice A n c]), VIs (.int .i64 (k)), VIs (.int .i64 (j)), VIs (.int .i64 (fac P sq k j)), VIs (.int .i64 (xs[k] * ys[j] % P * fac P sq k j)), VIs (.int .i64 (v0 + xs[k] * ys[j] % P * fac P sq k j)), VIs (.pointer (some ⟨w.heap.size, 0, none⟩)), VIs (.int .i64 (P)), VIs (.int .i64 ((v0 + xs[k] * ys[j] % P * fac P sq k j) % P)), VIs (.pointer (some ⟨g, k ^^^ j, none⟩))] (fun w' => Blk w' w.heap.size 28 #[.int .i64 P, .slice A n c] ∧ MkI w w' (some ⟨g, 0, none⟩) (pw n) (pw n) (addRow P sq t xs ys k L0 j) ∧ w'.cell? ⟨gx, ox + k, none⟩ = some (.int .i64 xs[k]) ∧ w'.cell? ⟨gy, oy + j, none⟩ = some (.int .i64 ys[j])) (by kernel_rfl) (by kernel_rfl) (fun _ _ h hb => ⟨h.1.below hb h.1.lt, h.2.1.below hb, (hb.cell (World.block_lt_of_cell? _ _ h.2.2.1)).trans h.2.2.1, (hb.cell (World.block_lt_of_cell? _ _ h.2.2.2)).trans h.2.2.2⟩) (⟨hk4, hO, hcx, hcy⟩) (fun x => ?_)
            refine obs_step (Eq.trans (by simp only [List.getElem?_toArray, List.getElem?_cons_zero]; exact rfl) rfl) rfl (fun w' hS hV K hK => ?_) ?_
            · obtain ⟨q0, q1⟩ := hS.1.two; obtain ⟨hoc, hof⟩ := hAt.out _ hS.2.1; have q2 := hS.2.2.1; have q3 := hS.2.2.2
              go_simp
              exact hK.out _ _ _ rfl rfl rfl (Below.refl _ _)
            simp only [List.setIfInBounds_toArray, List.set_cons_zero, List.set_cons_succ]
            refine obs_step (Eq.trans (by simp only [List.getElem?_toArray, List.getElem?_cons_succ, List.getElem?_cons_zero]; exact rfl) rfl) rfl (fun w' hS hV K hK => ?_) ?_
            · obtain ⟨q0, q1⟩ := hS.1.two; obtain ⟨hoc, hof⟩ := hAt.out _ hS.2.1; have q2 := hS.2.2.1; have q3 := hS.2.2.2
              go_simp
              exact hK.out _ _ _ rfl rfl rfl (Below.refl _ _)
            simp only [List.setIfInBounds_toArray, List.set_cons_zero, List.set_cons_succ]
            refine obs_step (Eq.trans (by simp only [List.getElem?_toArray, List.getElem?_cons_succ, List.getElem?_cons_zero]; exact rfl) rfl) rfl (fun w' hS hV K hK => ?_) ?_
            · obtain ⟨q0, q1⟩ := hS.1.two; obtain ⟨hoc, hof⟩ := hAt.out _ hS.2.1; have q2 := hS.2.2.1; have q3 := hS.2.2.2
              go_simp
              exact hK.out _ _ _ rfl rfl rfl (Below.refl _ _)
            simp only [List.setIfInBounds_toArray, List.set_cons_zero, List.set_cons_succ]
            refine obs_step (Eq.trans (by simp only [List.getElem?_toArray, List.getElem?_cons_succ, List.getElem?_cons_zero]; exact rfl) rfl) rfl (fun w' hS hV K hK => ?_) ?_
            · have e1 : x 1 = (.int .i64 (k)) := hV 1 (by decide)
              have e2 : x 2 = (.int .i64 (j)) := hV 2 (by decide)
              obtain ⟨q0, q1⟩ := hS.1.two; obtain ⟨hoc, hof⟩ := hAt.out _ hS.2.1; have q2 := hS.2.2.1; have q3 := hS.2.2.2
              go_simp
              exact hK.out _ _ _ rfl rfl rfl (Below.refl _ _)
            simp only [List.setIfInBounds_toArray, List.set_cons_zero, List.set_cons_succ]
            refine obs_step (Eq.trans (by simp only [List.getElem?_toArray, List.getElem?_cons_succ, List.getElem?_cons_zero]; exact rfl) rfl) rfl (fun w' hS hV K hK => ?_) ?_
            · obtain ⟨q0, q1⟩ := hS.1.two; obtain ⟨hoc, hof⟩ := hAt.out _ hS.2.1; have q2 := hS.2.2.1; have q3 := hS.2.2.2
              go_simp
              exact hK.out _ _ _ rfl rfl rfl (Below.refl _ _)
            simp only [List.setIfInBounds_toArray, List.set_cons_zero, List.set_cons_succ]
            refine obs_step (Eq.trans (by simp only [List.getElem?_toArray, List.getElem?_cons_succ, List.getElem?_cons_zero]; exact rfl) rfl) rfl (fun w' hS hV K hK => ?_) ?_
            · obtain ⟨q0, q1⟩ := hS.1.two; obtain ⟨hoc, hof⟩ := hAt.out _ hS.2.1; have q2 := hS.2.2.1; have q3 := hS.2.2.2
              go_simp
              exact hK.out _ _ _ rfl rfl rfl (Below.refl _ _)
            simp only [List.setIfInBounds_toArray, List.set_cons_zero, List.set_cons_succ]
            refine obs_step (Eq.trans (by simp only [List.getElem?_toArray, List.getElem?_cons_succ, List.getElem?_cons_zero]; exact rfl) rfl) rfl (fun w' hS hV K hK => ?_) ?_
            · obtain ⟨q0, q1⟩ := hS.1.two; obtain ⟨hoc, hof⟩ := hAt.out _ hS.2.1; have q2 := hS.2.2.1; have q3 := hS.2.2.2
              go_simp
              exact hK.out _ _ _ rfl rfl rfl (Below.refl _ _)
            simp only [List.setIfInBounds_toArray, List.set_cons_zero, List.set_cons_succ]
            refine obs_step (Eq.trans (by simp only [List.getElem?_toArray, List.getElem?_cons_succ, List.getElem?_cons_zero]; exact rfl) rfl) rfl (fun w' hS hV K hK => ?_) ?_
            · have e5 : x 5 = (.int .i64 (k)) := hV 5 (by decide)
              have e6 : x 6 = (.int .i64 (j)) := hV 6 (by decide)
              obtain ⟨q0, q1⟩ := hS.1.two; obtain ⟨hoc, hof⟩ := hAt.out _ hS.2.1; have q2 := hS.2.2.1; have q3 := hS.2.2.2
              go_simp
              exact hK.out _ _ _ rfl rfl rfl (Below.refl _ _)
            simp only [List.setIfInBounds_toArray, List.set_cons_zero, List.set_cons_succ]
            refine obs_step (Eq.trans (by simp only [List.getElem?_toArray, List.getElem?_cons_succ, List.getElem?_cons_zero]; exact rfl) rfl) rfl (fun w' hS hV K hK => ?_) ?_
            · have e4 : x 4 = (.slice (some ⟨g, 0, none⟩) (pw n) (pw n)) := hV 4 (by decide)
              have e5 : x 5 = (.int .i64 (k)) := hV 5 (by decide)
              have e6 : x 6 = (.int .i64 (j)) := hV 6 (by decide)
              have e7 : x 7 = (.int .i64 ((k ^^^ j : Nat))) := hV 7 (by decide)
              obtain ⟨q0, q1⟩ := hS.1.two; obtain ⟨hoc, hof⟩ := hAt.out _ hS.2.1; have q2 := hS.2.2.1; have q3 := hS.2.2.2
              go_simp
              exact hK.out _ _ _ rfl rfl rfl (Below.refl _ _)
            simp only [List.setIfInBounds_toArray, List.set_cons_zero, List.set_cons_succ]
            refine obs_step (Eq.trans (by simp only [List.getElem?_toArray, List.getElem?_cons_succ, List.getElem?_cons_zero]; exact rfl) rfl) rfl (fun w' hS hV K hK => ?_) ?_
            · have e4 : x 4 = (.slice (some ⟨g, 0, none⟩) (pw n) (pw n)) := hV 4 (by decide)
              have e5 : x 5 = (.int .i64 (k)) := hV 5 (by decide)
              have e6 : x 6 = (.int .i64 (j)) := hV 6 (by decide)
              have e7 : x 7 = (.int .i64 ((k ^^^ j : Nat))) := hV 7 (by decide)
              have e8 : x 8 = (.pointer (some ⟨g, k ^^^ j, none⟩)) := hV 8 (by decide)
              obtain ⟨q0, q1⟩ := hS.1.two; obtain ⟨hoc, hof⟩ := hAt.out _ hS.2.1; have q2 := hS.2.2.1; have q3 := hS.2.2.2
              go_simp
              exact hK.out _ _ _ rfl rfl rfl (Below.refl _ _)
            simp only [List.setIfInBounds_toArray, List.set_cons_zero, List.set_cons_succ]
            refine obs_step (Eq.trans (by simp only [List.getElem?_toArray, List.getElem?_cons_succ, List.getElem?_cons_zero]; exact rfl) rfl) rfl (fun w' hS hV K hK => ?_) ?_
            · obtain ⟨q0, q1⟩ := hS.1.two; obtain ⟨hoc, hof⟩ := hAt.out _ hS.2.1; have q2 := hS.2.2.1; have q3 := hS.2.2.2
              go_simp
              exact hK.out _ _ _ rfl rfl rfl (Below.refl _ _)
            simp only [List.setIfInBounds_toArray, List.set_cons_zero, List.set_cons_succ]
            refine obs_step (Eq.trans (by simp only [List.getElem?_toArray, List.getElem?_cons_succ, List.getElem?_cons_zero]; exact rfl) rfl) rfl (fun w' hS hV K hK => ?_) ?_
            · obtain ⟨q0, q1⟩ := hS.1.two; obtain ⟨hoc, hof⟩ := hAt.out _ hS.2.1; have q2 := hS.2.2.1; have q3 := hS.2.2.2
              go_simp
              exact hK.out _ _ _ rfl rfl rfl (Below.refl _ _)
            simp only [List.setIfInBounds_toArray, List.set_cons_zero, List.set_cons_succ]
            refine obs_step (Eq.trans (by simp only [List.getElem?_toArray, List.getElem?_cons_succ, List.getElem?_cons_zero]; exact rfl) rfl) rfl (fun w' hS hV K hK => ?_) ?_
            · have e10 : x 10 = (.slice (some ⟨gx, ox, none⟩) (pw n) cx) := hV 10 (by decide)
              have e11 : x 11 = (.int .i64 (k)) := hV 11 (by decide)
              obtain ⟨q0, q1⟩ := hS.1.two; obtain ⟨hoc, hof⟩ := hAt.out _ hS.2.1; have q2 := hS.2.2.1; have q3 := hS.2.2.2
              go_simp
              exact hK.out _ _ _ rfl rfl rfl (Below.refl _ _)
            simp only [List.setIfInBounds_toArray, List.set_cons_zero, List.set_cons_succ]
            refine obs_step (Eq.trans (by simp only [List.getElem?_toArray, List.getElem?_cons_succ, List.getElem?_cons_zero]; exact rfl) rfl) rfl (fun w' hS hV K hK => ?_) ?_
            · have e10 : x 10 = (.slice (some ⟨gx, ox, none⟩) (pw n) cx) := hV 10 (by decide)
              have e11 : x 11 = (.int .i64 (k)) := hV 11 (by decide)
              have e12 : x 12 = (.pointer (some ⟨gx, ox + k, none⟩)) := hV 12 (by decide)
              obtain ⟨q0, q1⟩ := hS.1.two; obtain ⟨hoc, hof⟩ := hAt.out _ hS.2.1; have q2 := hS.2.2.1; have q3 := hS.2.2.2
              go_simp
              exact hK.out _ _ _ rfl rfl rfl (Below.refl _ _)
            simp only [List.setIfInBounds_toArray, List.set_cons_zero, List.set_cons_succ]
            refine obs_step (Eq.trans (by simp only [List.getElem?_toArray, List.getElem?_cons_succ, List.getElem?_cons_zero]; exact rfl) rfl) rfl (fun w' hS hV K hK => ?_) ?_
            · obtain ⟨q0, q1⟩ := hS.1.two; obtain ⟨hoc, hof⟩ := hAt.out _ hS.2.1; have q2 := hS.2.2.1; have q3 := hS.2.2.2
              go_simp
              exact hK.out _ _ _ rfl rfl rfl (Below.refl _ _)
            simp only [List.setIfInBounds_toArray, List.set_cons_zero, List.set_cons_succ]
            refine obs_step (Eq.trans (by simp only [List.getElem?_toArray, List.getElem?_cons_succ, List.getElem?_cons_zero]; exact rfl) rfl) rfl (fun w' hS hV K hK => ?_) ?_
            · obtain ⟨q0, q1⟩ := hS.1.two; obtain ⟨hoc, hof⟩ := hAt.out _ hS.2.1; have q2 := hS.2.2.1; have q3 := hS.2.2.2
              go_simp
              exact hK.out _ _ _ rfl rfl rfl (Below.refl _ _)
            simp only [List.setIfInBounds_toArray, List.set_cons_zero, List.set_cons_succ]
            refine obs_step (Eq.trans (by simp only [List.getElem?_toArray, List.getElem?_cons_succ, List.getElem?_cons_zero]; exact rfl) rfl) rfl (fun w' hS hV K hK => ?_) ?_
            · have e14 : x 14 = (.slice (some ⟨gy, oy, none⟩) (pw n) cy) := hV 14 (by decide)
              have e15 : x 15 = (.int .i64 (j)) := hV 15 (by decide)
              obtain ⟨q0, q1⟩ := hS.1.two; obtain ⟨hoc, hof⟩ := hAt.out _ hS.2.1; have q2 := hS.2.2.1; have q3 := hS.2.2.2
              go_simp
              exact hK.out _ _ _ rfl rfl rfl (Below.refl _ _)
            simp only [List.setIfInBounds_toArray, List.set_cons_zero, List.set_cons_succ]
            refine obs_step (Eq.trans (by simp only [List.getElem?_toArray, List.getElem?_cons_succ, List.getElem?_cons_zero]; exact rfl) rfl) rfl (fun w' hS hV K hK => ?_) ?_
            · have e14 : x 14 = (.slice (some ⟨gy, oy, none⟩) (pw n) cy) := hV 14 (by decide)
              have e15 : x 15 = (.int .i64 (j)) := hV 15 (by decide)
              have e16 : x 16 = (.pointer (some ⟨gy, oy + j, none⟩)) := hV 16 (by decide)
              obtain ⟨q0, q1⟩ := hS.1.two; obtain ⟨hoc, hof⟩ := hAt.out _ hS.2.1; have q2 := hS.2.2.1; have q3 := hS.2.2.2
              go_simp
              exact hK.out _ _ _ rfl rfl rfl (Below.refl _ _)
            simp only [List.setIfInBounds_toArray, List.set_cons_zero, List.set_cons_succ]
            refine obs_step (Eq.trans (by simp only [List.getElem?_toArray, List.getElem?_cons_succ, List.getElem?_cons_zero]; exact rfl) rfl) rfl (fun w' hS hV K hK => ?_) ?_
            · have e10 : x 10 = (.slice (some ⟨gx, ox, none⟩) (pw n) cx) := hV 10 (by decide)
              have e11 : x 11 = (.int .i64 (k)) := hV 11 (by decide)
              have e12 : x 12 = (.pointer (some ⟨gx, ox + k, none⟩)) := hV 12 (by decide)
              have e13 : x 13 = (.int .i64 (xs[k])) := hV 13 (by decide)
              have e14 : x 14 = (.slice (some ⟨gy, oy, none⟩) (pw n) cy) := hV 14 (by decide)
              have e15 : x 15 = (.int .i64 (j)) := hV 15 (by decide)
              have e16 : x 16 = (.pointer (some ⟨gy, oy + j, none⟩)) := hV 16 (by decide)
              have e17 : x 17 = (.int .i64 (ys[j])) := hV 17 (by decide)
              obtain ⟨q0, q1⟩ := hS.1.two; obtain ⟨hoc, hof⟩ := hAt.out _ hS.2.1; have q2 := hS.2.2.1; have q3 := hS.2.2.2
              go_simp
              exact hK.out _ _ _ rfl rfl rfl (Below.refl _ _)
            simp only [List.setIfInBounds_toArray, List.set_cons_zero, List.set_cons_succ]
            refine obs_step (Eq.trans (by simp only [List.getElem?_toArray, List.getElem?_cons_succ, List.getElem?_cons_zero]; exact rfl) rfl) rfl (fun w' hS hV K hK => ?_) ?_
            · obtain ⟨q0, q1⟩ := hS.1.two; obtain ⟨hoc, hof⟩ := hAt.out _ hS.2.1; have q2 := hS.2.2.1; have q3 := hS.2.2.2
              go_simp
              exact hK.out _ _ _ rfl rfl rfl (Below.refl _ _)
            simp only [List.setIfInBounds_toArray, List.set_cons_zero, List.set_cons_succ]
            refine obs_step (Eq.trans (by simp only [List.getElem?_toArray, List.getElem?_cons_succ, List.getElem?_cons_zero]; exact rfl) rfl) rfl (fun w' hS hV K hK => ?_) ?_
            · have e19 : x 19 = (.pointer (some ⟨w.heap.size, 0, none⟩)) := hV 19 (by decide)
              obtain ⟨q0, q1⟩ := hS.1.two; obtain ⟨hoc, hof⟩ := hAt.out _ hS.2.1; have q2 := hS.2.2.1; have q3 := hS.2.2.2
              go_simp
              exact hK.out _ _ _ rfl rfl rfl (Below.refl _ _)
            simp only [List.setIfInBounds_toArray, List.set_cons_zero, List.set_cons_succ]
            refine obs_step (Eq.trans (by simp only [List.getElem?_toArray, List.getElem?_cons_succ, List.getElem?_cons_zero]; exact rfl) rfl) rfl (fun w' hS hV K hK => ?_) ?_
            · have e10 : x 10 = (.slice (some ⟨gx, ox, none⟩) (pw n) cx) := hV 10 (by decide)
              have e11 : x 11 = (.int .i64 (k)) := hV 11 (by decide)
              have e12 : x 12 = (.pointer (some ⟨gx, ox + k, none⟩)) := hV 12 (by decide)
              have e13 : x 13 = (.int .i64 (xs[k])) := hV 13 (by decide)
              have e14 : x 14 = (.slice (some ⟨gy, oy, none⟩) (pw n) cy) := hV 14 (by decide)
              have e15 : x 15 = (.int .i64 (j)) := hV 15 (by decide)
              have e16 : x 16 = (.pointer (some ⟨gy, oy + j, none⟩)) := hV 16 (by decide)
              have e17 : x 17 = (.int .i64 (ys[j])) := hV 17 (by decide)
              have e18 : x 18 = (.int .i64 (xs[k] * ys[j])) := hV 18 (by decide)
              have e19 : x 19 = (.pointer (some ⟨w.heap.size, 0, none⟩)) := hV 19 (by decide)
              have e20 : x 20 = (.int .i64 (P)) := hV 20 (by decide)
              obtain ⟨q0, q1⟩ := hS.1.two; obtain ⟨hoc, hof⟩ := hAt.out _ hS.2.1; have q2 := hS.2.2.1; have q3 := hS.2.2.2
              go_simp
              exact hK.out _ _ _ rfl rfl rfl (Below.refl _ _)
            simp only [List.setIfInBounds_toArray, List.set_cons_zero, List.set_cons_succ]
            refine obs_step (Eq.trans (by simp only [List.getElem?_toArray, List.getElem?_cons_succ, List.getElem?_cons_zero]; exact rfl) rfl) rfl (fun w' hS hV K hK => ?_) ?_
            · obtain ⟨q0, q1⟩ := hS.1.two; obtain ⟨hoc, hof⟩ := hAt.out _ hS.2.1; have q2 := hS.2.2.1; have q3 := hS.2.2.2
              go_simp
              exact hK.out _ _ _ rfl rfl rfl (Below.refl _ _)
            simp only [List.setIfInBounds_toArray, List.set_cons_zero, List.set_cons_succ]
            refine obs_step (Eq.trans (by simp only [List.getElem?_toArray, List.getElem?_cons_succ, List.getElem?_cons_zero]; exact rfl) rfl) rfl (fun w' hS hV K hK => ?_) ?_
            · obtain ⟨q0, q1⟩ := hS.1.two; obtain ⟨hoc, hof⟩ := hAt.out _ hS.2.1; have q2 := hS.2.2.1; have q3 := hS.2.2.2
              go_simp
              exact hK.out _ _ _ rfl rfl rfl (Below.refl _ _)
            simp only [List.setIfInBounds_toArray, List.set_cons_zero, List.set_cons_succ]
            refine obs_step (Eq.trans (by simp only [List.getElem?_toArray, List.getElem?_cons_succ, List.getElem?_cons_zero]; exact rfl) rfl) rfl (fun w' hS hV K hK => ?_) ?_
            · obtain ⟨q0, q1⟩ := hS.1.two; obtain ⟨hoc, hof⟩ := hAt.out _ hS.2.1; have q2 := hS.2.2.1; have q3 := hS.2.2.2
              go_simp
              exact hK.out _ _ _ rfl rfl rfl (Below.refl _ _)
            simp only [List.setIfInBounds_toArray, List.set_cons_zero, List.set_cons_succ]
            refine obs_step (Eq.trans (by simp only [List.getElem?_toArray, List.getElem?_cons_succ, List.getElem?_cons_zero]; exact rfl) rfl) rfl (fun w' hS hV K hK => ?_) ?_
            · have e22 : x 22 = (.agg #[.int .i64 P, .slice A n c]) := hV 22 (by decide)
              have e23 : x 23 = (.int .i64 (k)) := hV 23 (by decide)
              have e24 : x 24 = (.int .i64 (j)) := hV 24 (by decide)
              obtain ⟨q0, q1⟩ := hS.1.two; obtain ⟨hoc, hof⟩ := hAt.out _ hS.2.1; have q2 := hS.2.2.1; have q3 := hS.2.2.2
              go_simp
              refine (hF.out _ hS.2.1).mono ?_
              rintro e v1 ⟨rfl, hb⟩
              exact hK.out _ _ _ rfl rfl rfl hb
            simp only [List.setIfInBounds_toArray, List.set_cons_zero, List.set_cons_succ]
            refine obs_step (Eq.trans (by simp only [List.getElem?_toArray, List.getElem?_cons_succ, List.getElem?_cons_zero]; exact rfl) rfl) rfl (fun w' hS hV K hK => ?_) ?_
            · have e10 : x 10 = (.slice (some ⟨gx, ox, none⟩) (pw n) cx) := hV 10 (by decide)
              have e11 : x 11 = (.int .i64 (k)) := hV 11 (by decide)
              have e12 : x 12 = (.pointer (some ⟨gx, ox + k, none⟩)) := hV 12 (by decide)
              have e13 : x 13 = (.int .i64 (xs[k])) := hV 13 (by decide)
              have e14 : x 14 = (.slice (some ⟨gy, oy, none⟩) (pw n) cy) := hV 14 (by decide)
              have e15 : x 15 = (.int .i64 (j)) := hV 15 (by decide)
              have e16 : x 16 = (.pointer (some ⟨gy, oy + j, none⟩)) := hV 16 (by decide)
              have e17 : x 17 = (.int .i64 (ys[j])) := hV 17 (by decide)
              have e18 : x 18 = (.int .i64 (xs[k] * ys[j])) := hV 18 (by decide)
              have e19 : x 19 = (.pointer (some ⟨w.heap.size, 0, none⟩)) := hV 19 (by decide)
              have e20 : x 20 = (.int .i64 (P)) := hV 20 (by decide)
              have e21 : x 21 = (.int .i64 (xs[k] * ys[j] % P)) := hV 21 (by decide)
              have e22 : x 22 = (.agg #[.int .i64 P, .slice A n c]) := hV 22 (by decide)
              have e23 : x 23 = (.int .i64 (k)) := hV 23 (by decide)
              have e24 : x 24 = (.int .i64 (j)) := hV 24 (by decide)
              have e25 : x 25 = (.int .i64 (fac P sq k j)) := hV 25 (by decide)
              obtain ⟨q0, q1⟩ := hS.1.two; obtain ⟨hoc, hof⟩ := hAt.out _ hS.2.1; have q2 := hS.2.2.1; have q3 := hS.2.2.2
              go_simp
              exact hK.out _ _ _ rfl rfl rfl (Below.refl _ _)
            simp only [List.setIfInBounds_toArray, List.set_cons_zero, List.set_cons_succ]
            refine obs_step (Eq.trans (by simp only [List.getElem?_toArray, List.getElem?_cons_succ, List.getElem?_cons_zero]; exact rfl) rfl) rfl (fun w' hS hV K hK => ?_) ?_
            · have e4 : x 4 = (.slice (some ⟨g, 0, none⟩) (pw n) (pw n)) := hV 4 (by decide)
              have e5 : x 5 = (.int .i64 (k)) := hV 5 (by decide)
              have e6 : x 6 = (.int .i64 (j)) := hV 6 (by decide)
              have e7 : x 7 = (.int .i64 ((k ^^^ j : Nat))) := hV 7 (by decide)
              have e8 : x 8 = (.pointer (some ⟨g, k ^^^ j, none⟩)) := hV 8 (by decide)
              have e9 : x 9 = (.int .i64 (v0)) := hV 9 (by decide)
              have e10 : x 10 = (.slice (some ⟨gx, ox, none⟩) (pw n) cx) := hV 10 (by decide)
              have e11 : x 11 = (.int .i64 (k)) := hV 11 (by decide)
              have e12 : x 12 = (.pointer (some ⟨gx, ox + k, none⟩)) := hV 12 (by decide)
              have e13 : x 13 = (.int .i64 (xs[k])) := hV 13 (by decide)
              have e14 : x 14 = (.slice (some ⟨gy, oy, none⟩) (pw n) cy) := hV 14 (by decide)
              have e15 : x 15 = (.int .i64 (j)) := hV 15 (by decide)
              have e16 : x 16 = (.pointer (some ⟨gy, oy + j, none⟩)) := hV 16 (by decide)
              have e17 : x 17 = (.int .i64 (ys[j])) := hV 17 (by decide)
              have e18 : x 18 = (.int .i64 (xs[k] * ys[j])) := hV 18 (by decide)
              have e19 : x 19 = (.pointer (some ⟨w.heap.size, 0, none⟩)) := hV 19 (by decide)
              have e20 : x 20 = (.int .i64 (P)) := hV 20 (by decide)
              have e21 : x 21 = (.int .i64 (xs[k] * ys[j] % P)) := hV 21 (by decide)
              have e22 : x 22 = (.agg #[.int .i64 P, .slice A n c]) := hV 22 (by decide)
              have e23 : x 23 = (.int .i64 (k)) := hV 23 (by decide)
              have e24 : x 24 = (.int .i64 (j)) := hV 24 (by decide)
              have e25 : x 25 = (.int .i64 (fac P sq k j)) := hV 25 (by decide)
              have e26 : x 26 = (.int .i64 (xs[k] * ys[j] % P * fac P sq k j)) := hV 26 (by decide)
              obtain ⟨q0, q1⟩ := hS.1.two; obtain ⟨hoc, hof⟩ := hAt.out _ hS.2.1; have q2 := hS.2.2.1; have q3 := hS.2.2.2
              go_simp
              exact hK.out _ _ _ rfl rfl rfl (Below.refl _ _)
            simp only [List.setIfInBounds_toArray, List.set_cons_zero, List.set_cons_succ]
            refine obs_step (Eq.trans (by simp only [List.getElem?_toArray, List.getElem?_cons_succ, List.getElem?_cons_zero]; exact rfl) rfl) rfl (fun w' hS hV K hK => ?_) ?_
            · obtain ⟨q0, q1⟩ := hS.1.two; obtain ⟨hoc, hof⟩ := hAt.out _ hS.2.1; have q2 := hS.2.2.1; have q3 := hS.2.2.2
              go_simp
              exact hK.out _ _ _ rfl rfl rfl (Below.refl _ _)
            simp only [List.setIfInBounds_toArray, List.set_cons_zero, List.set_cons_succ]
            refine obs_step (Eq.trans (by simp only [List.getElem?_toArray, List.getElem?_cons_succ, List.getElem?_cons_zero]; exact rfl) rfl) rfl (fun w' hS hV K hK => ?_) ?_
            · have e28 : x 28 = (.pointer (some ⟨w.heap.size, 0, none⟩)) := hV 28 (by decide)
              obtain ⟨q0, q1⟩ := hS.1.two; obtain ⟨hoc, hof⟩ := hAt.out _ hS.2.1; have q2 := hS.2.2.1; have q3 := hS.2.2.2
              go_simp
              exact hK.out _ _ _ rfl rfl rfl (Below.refl _ _)
            simp only [List.setIfInBounds_toArray, List.set_cons_zero, List.set_cons_succ]
            refine obs_step (Eq.trans (by simp only [List.getElem?_toArray, List.getElem?_cons_succ, List.getElem?_cons_zero]; exact rfl) rfl) rfl (fun w' hS hV K hK => ?_) ?_
            · have e4 : x 4 = (.slice (some ⟨g, 0, none⟩) (pw n) (pw n)) := hV 4 (by decide)
              have e5 : x 5 = (.int .i64 (k)) := hV 5 (by decide)
              have e6 : x 6 = (.int .i64 (j)) := hV 6 (by decide)
              have e7 : x 7 = (.int .i64 ((k ^^^ j : Nat))) := hV 7 (by decide)
              have e8 : x 8 = (.pointer (some ⟨g, k ^^^ j, none⟩)) := hV 8 (by decide)
              have e9 : x 9 = (.int .i64 (v0)) := hV 9 (by decide)
              have e10 : x 10 = (.slice (some ⟨gx, ox, none⟩) (pw n) cx) := hV 10 (by decide)
              have e11 : x 11 = (.int .i64 (k)) := hV 11 (by decide)
              have e12 : x 12 = (.pointer (some ⟨gx, ox + k, none⟩)) := hV 12 (by decide)
              have e13 : x 13 = (.int .i64 (xs[k])) := hV 13 (by decide)
              have e14 : x 14 = (.slice (some ⟨gy, oy, none⟩) (pw n) cy) := hV 14 (by decide)
              have e15 : x 15 = (.int .i64 (j)) := hV 15 (by decide)
              have e16 : x 16 = (.pointer (some ⟨gy, oy + j, none⟩)) := hV 16 (by decide)
              have e17 : x 17 = (.int .i64 (ys[j])) := hV 17 (by decide)
              have e18 : x 18 = (.int .i64 (xs[k] * ys[j])) := hV 18 (by decide)
              have e19 : x 19 = (.pointer (some ⟨w.heap.size, 0, none⟩)) := hV 19 (by decide)
              have e20 : x 20 = (.int .i64 (P)) := hV 20 (by decide)
              have e21 : x 21 = (.int .i64 (xs[k] * ys[j] % P)) := hV 21 (by decide)
              have e22 : x 22 = (.agg #[.int .i64 P, .slice A n c]) := hV 22 (by decide)
              have e23 : x 23 = (.int .i64 (k)) := hV 23 (by decide)
              have e24 : x 24 = (.int .i64 (j)) := hV 24 (by decide)
              have e25 : x 25 = (.int .i64 (fac P sq k j)) := hV 25 (by decide)
              have e26 : x 26 = (.int .i64 (xs[k] * ys[j] % P * fac P sq k j)) := hV 26 (by decide)
              have e27 : x 27 = (.int .i64 (v0 + xs[k] * ys[j] % P * fac P sq k j)) := hV 27 (by decide)
              have e28 : x 28 = (.pointer (some ⟨w.heap.size, 0, none⟩)) := hV 28 (by decide)
              have e29 : x 29 = (.int .i64 (P)) := hV 29 (by decide)
              obtain ⟨q0, q1⟩ := hS.1.two; obtain ⟨hoc, hof⟩ := hAt.out _ hS.2.1; have q2 := hS.2.2.1; have q3 := hS.2.2.2
              go_simp
              exact hK.out _ _ _ rfl rfl rfl (Below.refl _ _)
            simp only [List.setIfInBounds_toArray, List.set_cons_zero, List.set_cons_succ]
            refine obs_step (Eq.trans (by simp only [List.getElem?_toArray, List.getElem?_cons_succ, List.getElem?_cons_zero]; exact rfl) rfl) rfl (fun w' hS hV K hK => ?_) ?_
            · have e0 : x 0 = (.slice (some ⟨g, 0, none⟩) (pw n) (pw n)) := hV 0 (by decide)
              have e1 : x 1 = (.int .i64 (k)) := hV 1 (by decide)
              have e2 : x 2 = (.int .i64 (j)) := hV 2 (by decide)
              have e3 : x 3 = (.int .i64 ((k ^^^ j : Nat))) := hV 3 (by decide)
              obtain ⟨q0, q1⟩ := hS.1.two; obtain ⟨hoc, hof⟩ := hAt.out _ hS.2.1; have q2 := hS.2.2.1; have q3 := hS.2.2.2
              go_simp
              exact hK.out _ _ _ rfl rfl rfl (Below.refl _ _)
            simp only [List.setIfInBounds_toArray, List.set_cons_zero, List.set_cons_succ]
            refine fun w' hS hV => ?_
            have e0 : x 0 = (.slice (some ⟨g, 0, none⟩) (pw n) (pw n)) := hV 0 (by decide)
            have e1 : x 1 = (.int .i64 (k)) := hV 1 (by decide)
            have e2 : x 2 = (.int .i64 (j)) := hV 2 (by decide)
            have e3 : x 3 = (.int .i64 ((k ^^^ j : Nat))) := hV 3 (by decide)
            have e4 : x 4 = (.slice (some ⟨g, 0, none⟩) (pw n) (pw n)) := hV 4 (by decide)
            have e5 : x 5 = (.int .i64 (k)) := hV 5 (by decide)
            have e6 : x 6 = (.int .i64 (j)) := hV 6 (by decide)
            have e7 : x 7 = (.int .i64 ((k ^^^ j : Nat))) := hV 7 (by decide)
            have e8 : x 8 = (.pointer (some ⟨g, k ^^^ j, none⟩)) := hV 8 (by decide)
            have e9 : x 9 = (.int .i64 (v0)) := hV 9 (by decide)
            have e10 : x 10 = (.slice (some ⟨gx, ox, none⟩) (pw n) cx) := hV 10 (by decide)
            have e11 : x 11 = (.int .i64 (k)) := hV 11 (by decide)
            have e12 : x 12 = (.pointer (some ⟨gx, ox + k, none⟩)) := hV 12 (by decide)
            have e13 : x 13 = (.int .i64 (xs[k])) := hV 13 (by decide)
            have e14 : x 14 = (.slice (some ⟨gy, oy, none⟩) (pw n) cy) := hV 14 (by decide)
            have e15 : x 15 = (.int .i64 (j)) := hV 15 (by decide)
            have e16 : x 16 = (.pointer (some ⟨gy, oy + j, none⟩)) := hV 16 (by decide)
            have e17 : x 17 = (.int .i64 (ys[j])) := hV 17 (by decide)
            have e18 : x 18 = (.int .i64 (xs[k] * ys[j])) := hV 18 (by decide)
            have e19 : x 19 = (.pointer (some ⟨w.heap.size, 0, none⟩)) := hV 19 (by decide)
            have e20 : x 20 = (.int .i64 (P)) := hV 20 (by decide)
            have e21 : x 21 = (.int .i64 (xs[k] * ys[j] % P)) := hV 21 (by decide)
            have e22 : x 22 = (.agg #[.int .i64 P, .slice A n c]) := hV 22 (by decide)
            have e23 : x 23 = (.int .i64 (k)) := hV 23 (by decide)
            have e24 : x 24 = (.int .i64 (j)) := hV 24 (by decide)
            have e25 : x 25 = (.int .i64 (fac P sq k j)) := hV 25 (by decide)
            have e26 : x 26 = (.int .i64 (xs[k] * ys[j] % P * fac P sq k j)) := hV 26 (by decide)
            have e27 : x 27 = (.int .i64 (v0 + xs[k] * ys[j] % P * fac P sq k j)) := hV 27 (by decide)
            have e28 : x 28 = (.pointer (some ⟨w.heap.size, 0, none⟩)) := hV 28 (by decide)
            have e29 : x 29 = (.int .i64 (P)) := hV 29 (by decide)
            have e30 : x 30 = (.int .i64 ((v0 + xs[k] * ys[j] % P * fac P sq k j) % P)) := hV 30 (by decide)
            have e31 : x 31 = (.pointer (some ⟨g, k ^^^ j, none⟩)) := hV 31 (by decide)
            simp only [e0, e1, e2, e3, e4, e5, e6, e7, e8, e9, e10, e11, e12, e13, e14, e15, e16, e17, e18, e19, e20, e21, e22, e23, e24, e25, e26, e27, e28, e29, e30, e31]
            clear e0 e1 e2 e3 e4 e5 e6 e7 e8 e9 e10 e11 e12 e13 e14 e15 e16 e17 e18 e19 e20 e21 e22 e23 e24 e25 e26 e27 e28 e29 e30 e31
            obtain ⟨hk4, hO, s3, s4⟩ := hS
            obtain ⟨hoc, hof⟩ := hAt.out _ hO
            refine any_one (j := 32) (by kernel_rfl) (Eq.trans (by simp only [List.getElem?_toArray, List.getElem?_cons_succ, List.getElem?_cons_zero]; exact rfl) rfl) (fun K hK => ?_)
            go_simp
            refine hK.out _ _ (wpAny_done (by kernel_rfl) ?_ _)
            have hset := (hO.set (k ^^^ j) (.int .i64 ((v0 + xs[k] * ys[j] % P * fac P sq k j) % P))).1
            rw [ints_set] at hset
            have hkn := hk4.far (p := ⟨g, k ^^^ j, none⟩) HNE.out.1.symm (.int .i64 ((v0 + xs[k] * ys[j] % P * fac P sq k j) % P))
            clear W1 W2 W3 T1 T2 hoc hof hO hk4
            go_wp2
            go_roundw
            case rel => exact ⟨j + 1, by omega, by go_num, by rw [addRow_succ, ← addPair_all (by omega) HNR.out HF1.out, ← HV0.out, hxn.out, hyn.out, ← mod_mul_add v0 (xs[k] * ys[j]) (fac P sq k j) P]; exact hset, hkn⟩
            case measure => simp [intOf]; omega
        · obtain rfl : j = pw n := by omega
          have HM := Lib.hid hM3
          clear hM3
          go_wp2
          go_roundw
          case rel => exact ⟨k + 1, by omega, by go_num, by rw [addRows_succ, Hy.out, ← HL0.out]; exact HM.out, hk3⟩
          case measure => simp [intOf]; omega
    · obtain rfl : k = pw n := by omega
      go_wp2
      go_ret
      exact ⟨_, _, rfl, by rw [HDL.out]; exact hM2⟩
set_option maxRecDepth 2000 in
set_option maxHeartbeats 3200000 in
set_option maxRecDepth 8000 in
theorem l05Kind_1 (P : Int) (A : Option Addr) (n c : Nat) (sq : List Int) (X : Option Addr) (cx : Nat) (xs : List Int) (Y : Option Addr) (cy : Nat) (ys : List Int) (w : World) (hp : 2 ≤ P) (hp2 : P ≤ 13) (hn : n ≤ 6)
    (ha : Rd w A n (ints sq)) (hs : NumsL P sq) (hx : Rd w X (pw n) (ints xs)) (hxs : NumsL P xs) (hy : Rd w Y (pw n) (ints ys)) (hys : NumsL P ys) :
    Calls Tryz.prog 168 #[.agg #[.int .i64 P, .slice A n c], .slice X (pw n) cx, .slice Y (pw n) cy, .int .i64 1] w fun e w' => ∃ A' c', e = .returned (.slice A' (pw n) c') ∧ MkI w w' A' (pw n) c' (contrL P sq xs ys) := by
  have hxl : xs.length = pw n := by have := hx.1; rwa [ints_length] at this
  have hyl : ys.length = pw n := by have := hy.1; rwa [ints_length] at this
  have Hx := Lib.hid hxl; clear hxl
  have Hy := Lib.hid hyl; clear hyl
  obtain ⟨t, ht⟩ : ∃ t : Nat → Nat → Bool, t = fun a b => a &&& b == a := ⟨_, rfl⟩
  have HTK : Hid (∀ a b, t a b = (fun a b => a &&& b == a) a b) := Lib.hid (fun a b => by rw [ht])
  have HDL : Hid (contrL P sq xs ys = addRows P sq t xs ys (List.replicate (pw n) 0) (pw n)) := Lib.hid (by unfold contrL prodL; rw [Hx.out, ht])
  clear ht
  have hpw : pw n ≤ 64 := pw_le hn
  have hmk := make_i (P := Tryz.prog) 22 2 Tryz.underlying22 info_i (pw n) (by omega)
  have hB0 : Below w.heap.size w (w.alloc (.cells #[.int .i64 P, .slice A n c] 28)) := (Below.refl _ w).alloc (Nat.le_refl _) _
  have hM := Mk.made (E := 2) (n := pw n) (z := .int .i64 0) hB0 (by simp only [maxLen]; omega)
  rw [ints_replicate] at hM
  have hk0 : Blk ((w.alloc (.cells #[.int .i64 P, .slice A n c] 28)).alloc (.cells (madeCells #[.int .i64 0] (pw n)) 2)) w.heap.size 28 #[.int .i64 P, .slice A n c] := (Blk.new w _ _).alloc _
  go_enter Tryz.func168, Tryz.ntmps168
  go_wp2
  clear hmk
  obtain ⟨w1, hw1⟩ : ∃ W, W = (w.alloc (.cells #[.int .i64 P, .slice A n c] 28)).alloc (.cells (madeCells #[.int .i64 0] (pw n)) 2) := ⟨_, rfl⟩
  rw [← hw1] at hM hk0 ⊢
  rw [World.size_alloc] at hM
  clear hB0 hw1
  obtain ⟨g, hg⟩ : ∃ g, g = w.heap.size + 1 := ⟨_, rfl⟩
  rw [← hg] at hM ⊢
  have hg1 : w.heap.size + 1 ≤ g := by omega
  clear hg
  go_loopw [10, 11] (fun i _ wr => ∃ k : Nat, k ≤ pw n ∧ i = .int .i64 k ∧ MkI w wr (some ⟨g, 0, none⟩) (pw n) (pw n) (addRows P sq t xs ys (List.replicate (pw n) 0) k) ∧ Blk wr w.heap.size 28 #[.int .i64 P, .slice A n c]) (fun i _ _ => pw n - (intOf i).toNat)
  case atStart => exact ⟨0, by omega, rfl, by simpa [addRows] using hM, hk0⟩
  case round =>
    obtain ⟨k, hk, rfl, hM2, hk2⟩ := hrel
    clear hM hk0
    by_cases hlt : k < pw n
    · obtain ⟨gx, ox, hX, hxk, hcw⟩ := hx.int hlt
      subst hX
      obtain ⟨x1, x2⟩ := hxs _ (List.getElem_mem hxk)
      have hxn : Hid (xs.getD k 0 = xs[k]) := Lib.hid (by rw [List.getD_eq_getElem?_getD, List.getElem?_eq_getElem hxk]; rfl)
      have hgx := World.block_lt_of_cell? _ _ hcw
      have HGX : Hid (g ≠ gx) := Lib.hid (by simp at hgx; omega)
      have HCW := Lib.hid hcw
      clear hcw hgx
      have hR0 : MkI w wr (some ⟨g, 0, none⟩) (pw n) (pw n) (addRow P sq t xs ys k (addRows P sq t xs ys (List.replicate (pw n) 0) k) 0) := by simpa [addRow] using hM2
      have hN0 : NumsL P (addRows P sq t xs ys (List.replicate (pw n) 0) k) := addRows_nums sq _ xs ys k (by omega) (NumsL.replicate (by omega) _)
      obtain ⟨L0, hL0⟩ : ∃ L, L = addRows P sq t xs ys (List.replicate (pw n) 0) k := ⟨_, rfl⟩
      rw [← hL0] at hR0 hN0
      have HL0 := Lib.hid hL0
      have HN0 := Lib.hid hN0
      clear hM2 hL0 hN0
      go_wp2
      go_loopw [11] (fun i wr => ∃ j : Nat, j ≤ pw n ∧ i = .int .i64 j ∧ MkI w wr (some ⟨g, 0, none⟩) (pw n) (pw n) (addRow P sq t xs ys k L0 j) ∧ Blk wr w.heap.size 28 #[.int .i64 P, .slice A n c]) (fun i _ => pw n - (intOf i).toNat)
      case atStart => exact ⟨0, by omega, rfl, hR0, hk2⟩
      case round =>
        clear hR0 hk2
        obtain ⟨j, hj, rfl, hM3, hk3⟩ := hrel
        have hcx : wr.cell? ⟨gx, ox + k, none⟩ = some (.int .i64 xs[k]) := (hM3.b.cell (World.block_lt_of_cell? _ _ HCW.out)).trans HCW.out
        by_cases hlj : j < pw n
        · obtain ⟨gy, oy, hY, hyj, hcyw⟩ := hy.int hlj
          subst hY
          have hgy := World.block_lt_of_cell? _ _ hcyw
          have HGY : Hid (g ≠ gy) := Lib.hid (by simp at hgy; omega)
          have hcy : wr.cell? ⟨gy, oy + j, none⟩ = some (.int .i64 ys[j]) := (hM3.b.cell (World.block_lt_of_cell? _ _ hcyw)).trans hcyw
          clear hcyw hgy
          obtain ⟨y1, y2⟩ := hys _ (List.getElem_mem hyj)
          have hyn : Hid (ys.getD j 0 = ys[j]) := Lib.hid (by rw [List.getD_eq_getElem?_getD, List.getElem?_eq_getElem hyj]; rfl)
          have hxa := and_val k (by omega) j (by omega)
          have HTKJ := Lib.hid (HTK.out k j)
          obtain ⟨cm, hcm⟩ : ∃ cm, cm = k &&& j := ⟨_, rfl⟩
          rw [← hcm] at hxa
          have HCM : Hid (cm = k &&& j) := Lib.hid hcm
          clear hcm
          by_cases hcc : cm = k
          case neg =>
            have HF0 : Hid (t k j = false) := Lib.hid (by rw [HTKJ.out]; show (_ == _) = false; rw [← HCM.out]; simpa using hcc)
            have HM := Lib.hid hM3
            have HK3 := Lib.hid hk3
            clear hM3 hk3
            go_wp2
            go_roundw
            case rel => exact ⟨j + 1, by omega, by go_num, by rw [addRow_succ, addPair_none HF0.out]; exact HM.out, HK3.out⟩
            case measure => simp [intOf]; omega
          case pos =>
            have HF1 : Hid (t k j = true) := Lib.hid (by rw [HTKJ.out]; show (_ == _) = true; rw [← HCM.out]; simpa using hcc)
            have hidx : k ^^^ j < pw n := xor_lt hlt hlj
            have hxo := xor_all k (by omega) j (by omega)
            have HNR := Lib.hid (addRow_nums sq t xs ys k j (by omega) HN0.out)
            have hvb := HNR.out.getD (by omega) (k ^^^ j)
            obtain ⟨hoc, hof⟩ := mkI_at hM3.drew hidx
            obtain ⟨v0, hv0⟩ : ∃ v, v = (addRow P sq t xs ys k L0 j).getD (k ^^^ j) 0 := ⟨_, rfl⟩
            rw [← hv0] at hvb hoc
            obtain ⟨v1, v2⟩ := hvb
            have HV0 := Lib.hid hv0
            have hAt : Hid (∀ w', MkI w w' (some ⟨g, 0, none⟩) (pw n) (pw n) (addRow P sq t xs ys k L0 j) → w'.cell? ⟨g, k ^^^ j, none⟩ = some (.int .i64 v0) ∧ w'.frozen? ⟨g, k ^^^ j, none⟩ = false) :=
              Lib.hid (fun w' h => by rw [HV0.out]; exact mkI_at h hidx)
            clear hv0
            obtain ⟨f1, f2⟩ := fac_bound P sq k j hp
            obtain ⟨m1, m2⟩ := mul_small x1 (show xs[k] ≤ 13 by omega) y1 (show ys[j] ≤ 13 by omega)
            obtain ⟨r1, r2⟩ := emod_small (xs[k] * ys[j]) P (by omega)
            obtain ⟨m3, m4⟩ := mul_small r1 (show xs[k] * ys[j] % P ≤ 13 by omega) f1 (show fac P sq k j ≤ 13 by omega)
            have HNE : Hid (g ≠ w.heap.size ∧ g ≠ w.heap.size ∧ g ≠ gx ∧ g ≠ gy) := Lib.hid ⟨by omega, by omega, HGX.out, HGY.out⟩
            have hF : Hid (∀ w', MkI w w' (some ⟨g, 0, none⟩) (pw n) (pw n) (addRow P sq t xs ys k L0 j) → Calls Tryz.prog 135 #[.agg #[.int .i64 P, .slice A n c], .int .i64 k, .int .i64 j] w' fun e w'' => e = .returned (.int .i64 (fac P sq k j)) ∧ Below w'.heap.size w' w'') :=
              Lib.hid (fun w' h => l04Blades_any P A n c sq k j w' hp hp2 hn (ha.below h.b) hs (by omega) (by omega))
            have W1 := i64_fit (xs[k] * ys[j]) (by omega) (by omega)
            have W2 := i64_fit (xs[k] * ys[j] % P * fac P sq k j) (by omega) (by omega)
            have W3 := i64_fit (v0 + xs[k] * ys[j] % P * fac P sq k j) (by omega) (by omega)
            have T1 := Int.tmod_eq_emod_of_nonneg (b := P) m1
            have T2 := Int.tmod_eq_emod_of_nonneg (a := (v0 + xs[k] * ys[j] % P * fac P sq k j)) (b := P) (by omega)
            obtain ⟨kc0, kc1⟩ := hk3.two
            have hoc2 : wr.cell? ⟨g, k ^^^ j, none⟩ = some (.int .i64 v0) := hoc
            have hof2 : wr.frozen? ⟨g, k ^^^ j, none⟩ = false := hof
            have hP0 : (P == 0) = false := by simp; omega
            have hP1 : (P == -1) = false := by simp; omega
            have hP2 : ¬ P = 0 := by omega
            have hO := hM3.drew
            have hk4 := hk3.drew
            go_wp2
            have i1 : (0 : Int) ≤ ((k ^^^ j : Nat) : Int) := by omega
            have i2 : ((k ^^^ j : Nat) : Int) < ((pw n : Nat) : Int) := by omega
            have i3 : (0 : Int) ≤ (k : Int) := by omega
            have i4 : (k : Int) < ((pw n : Nat) : Int) := by omega
            have i5 : (0 : Int) ≤ (j : Int) := by omega
            have i6 : (j : Int) < ((pw n : Nat) : Int) := by omega
            refine wp_obs 32 [[], [], [], [1, 2], [], [], [], [5, 6], [4, 5, 6, 7], [4, 5, 6, 7, 8], [], [], [10, 11], [10, 11, 12], [], [], [14, 15], [14, 15, 16], [10, 11, 12, 13, 14, 15, 16, 17], [], [19], [10, 11, 12, 13, 14, 15, 16, 17, 18, 19, 20], [], [], [], [22, 23, 24], [10, 11, 12, 13, 14, 15, 16, 17, 18, 19, 20, 21, 22, 23, 24, 25], [4, 5, 6, 7, 8, 9, 10, 11, 12, 13, 14, 15, 16, 17, 18, 19, 20, 21, 22, 23, 24, 25, 26], [], [28], [4, 5, 6, 7, 8, 9, 10, 11, 12, 13, 14, 15, 16, 17, 18, 19, 20, 21, 22, 23, 24, 25, 26, 27, 28, 29], [0, 1, 2, 3], [0, 1, 2, 3, 4, 5, 6, 7, 8, 9, 10, 11, 12, 13, 14, 15, 16, 17, 18, 19, 20, 21, 22, 23, 24, 25, 26, 27, 28, 29, 30, 31]] [VIs (.slice (some ⟨g, 0, none⟩) (pw n) (pw n)), VIs (.int .i64 (k)), VIs (.int .i64 (j)), VIs (.int .i64 ((k ^^^ j : Nat))), VIs (.slice (some ⟨g, 0, none⟩) (pw n) (pw n)), VIs (.int .i64 (k)), VIs (.int .i64 (j)), VIs (.int .i64 ((k ^^^ j : Nat))), VIs (.pointer (some ⟨g, k ^^^ j, none⟩)), VIs (.int .i64 (v0)), VIs (.slice (some ⟨gx, ox, none⟩) (pw n) cx), VIs (.int .i64 (k)), VIs (.pointer (some ⟨gx, ox + k, none⟩)), VIs (.int .i64 (xs[k])), VIs (.slice (some ⟨gy, oy, none⟩) (pw n) cy), VIs (.int .i64 (j)), VIs (.pointer (some ⟨gy, oy + j, none⟩)), VIs (.int .i64 (ys[j])), VIs (.int .i64 (xs[k] * ys[j])), VIs (.pointer (some ⟨w.heap.size, 0, none⟩)), VIs (.int .i64 (P)), VIs (.int .i64 (xs[k] * ys[j] % P)), VIs (.agg #[.int .i64 P, .slice A n c]), VIs (.int .i64 (k)), VIs (.int .i64 (j)), VIs (.int .i64 (fac P sq k j)), VIs (.int .i64 (xs[k] * ys[j] % P * fac P sq k j)), VIs (.int .i64 (v0 + xs[k] * ys[j] % P * fac P sq k j)), VIs (.pointer (some ⟨w.heap.size, 0, none⟩)), VIs (.int .i64 (P)), VIs (.int .i64 ((v0 + xs[k] * ys[j] % P * fac P sq k j) % P)), VIs (.pointer (some ⟨g, k ^^^ j, none⟩))] (fun w' => Blk w' w.heap.size 28 #[.int .i64 P, .slice A n c] ∧ MkI w w' (some ⟨g, 0, none⟩) (pw n) (pw n) (addRow P sq t xs ys k L0 j) ∧ w'.cell? ⟨gx, ox + k, none⟩ = some (.int .i64 xs[k]) ∧ w'.cell? ⟨gy, oy + j, none⟩ = some (.int .i64 ys[j])) (by kernel_rfl) (by kernel_rfl) (fun _ _ h hb => ⟨h.1.below hb h.1.lt, h.2.1.below hb, (hb.cell (World.block_lt_of_cell? _ _ h.2.2.1)).trans h.2.2.1, (hb.cell (World.block_lt_of_cell? _ _ h.2.2.2)).trans h.2.2.2⟩) (⟨hk4, hO, hcx, hcy⟩) (fun x => ?_)
            refine obs_step (Eq.trans (by simp only [List.getElem?_toArray, List.getElem?_cons_zero]; exact rfl) rfl) rfl (fun w' hS hV K hK => ?_) ?_
            · obtain ⟨q0, q1⟩ := hS.1.two; obtain ⟨hoc, hof⟩ := hAt.out _ hS.2.1; have q2 := hS.2.2.1; have q3 := hS.2.2.2
              go_simp
              exact hK.out _ _ _ rfl rfl rfl (Below.refl _ _)
            simp only [List.setIfInBounds_toArray, List.set_cons_zero, List.set_cons_succ]
            refine obs_step (Eq.trans (by simp only [List.getElem?_toArray, List.getElem?_cons_succ, List.getElem?_cons_zero]; exact rfl) rfl) rfl (fun w' hS hV K hK => ?_) ?_
            · obtain ⟨q0, q1⟩ := hS.1.two; obtain ⟨hoc, hof⟩ := hAt.out _ hS.2.1; have q2 := hS.2.2.1; have q3 := hS.2.2.2
              go_simp
              exact hK.out _ _ _ rfl rfl rfl (Below.refl _ _)
            simp only [List.setIfInBounds_toArray, List.set_cons_zero, List.set_cons_succ]
            refine obs_step (Eq.trans (by simp only [List.getElem?_toArray, List.getElem?_cons_succ, List.getElem?_cons_zero]; exact rfl) rfl) rfl (fun w' hS hV K hK => ?_) ?_
            · obtain ⟨q0, q1⟩ := hS.1.two; obtain ⟨hoc, hof⟩ := hAt.out _ hS.2.1; have q2 := hS.2.2.1; have q3 := hS.2.2.2
              go_simp
              exact hK.out _ _ _ rfl rfl rfl (Below.refl _ _)
            simp only [List.setIfInBounds_toArray, List.set_cons_zero, List.set_cons_succ]
            refine obs_step (Eq.trans (by simp only [List.getElem?_toArray, List.getElem?_cons_succ, List.getElem?_cons_zero]; exact rfl) rfl) rfl (fun w' hS hV K hK => ?_) ?_
            · have e1 : x 1 = (.int .i64 (k)) := hV 1 (by decide)
              have e2 : x 2 = (.int .i64 (j)) := hV 2 (by decide)
              obtain ⟨q0, q1⟩ := hS.1.two; obtain ⟨hoc, hof⟩ := hAt.out _ hS.2.1; have q2 := hS.2.2.1; have q3 := hS.2.2.2
              go_simp
              exact hK.out _ _ _ rfl rfl rfl (Below.refl _ _)
            simp only [List.setIfInBounds_toArray, List.set_cons_zero, List.set_cons_succ]
            refine obs_step (Eq.trans (by simp only [List.getElem?_toArray, List.getElem?_cons_succ, List.getElem?_cons_zero]; exact rfl) rfl) rfl (fun w' hS hV K hK => ?_) ?_
            · obtain ⟨q0, q1⟩ := hS.1.two; obtain ⟨hoc, hof⟩ := hAt.out _ hS.2.1; have q2 := hS.2.2.1; have q3 := hS.2.2.2
              go_simp
              exact hK.out _ _ _ rfl rfl rfl (Below.refl _ _)
            simp only [List.setIfInBounds_toArray, List.set_cons_zero, List.set_cons_succ]
            refine obs_step (Eq.trans (by simp only [List.getElem?_toArray, List.getElem?_cons_succ, List.getElem?_cons_zero]; exact rfl) rfl) rfl (fun w' hS hV K hK => ?_) ?_
            · obtain ⟨q0, q1⟩ := hS.1.two; obtain ⟨hoc, hof⟩ := hAt.out _ hS.2.1; have q2 := hS.2.2.1; have q3 := hS.2.2.2
              go_simp
              exact hK.out _ _ _ rfl rfl rfl (Below.refl _ _)
            simp only [List.setIfInBounds_toArray, List.set_cons_zero, List.set_cons_succ]
            refine obs_step (Eq.trans (by simp only [List.getElem?_toArray, List.getElem?_cons_succ, List.getElem?_cons_zero]; exact rfl) rfl) rfl (fun w' hS hV K hK => ?_) ?_
            · obtain ⟨q0, q1⟩ := hS.1.two; obtain ⟨hoc, hof⟩ := hAt.out _ hS.2.1; have q2 := hS.2.2.1; have q3 := hS.2.2.2
              go_simp
              exact hK.out _ _ _ rfl rfl rfl (Below.refl _ _)
            simp only [List.setIfInBounds_toArray, List.set_cons_zero, List.set_cons_succ]
            refine obs_step (Eq.trans (by simp only [List.getElem?_toArray, List.getElem?_cons_succ, List.getElem?_cons_zero]; exact rfl) rfl) rfl (fun w' hS hV K hK => ?_) ?_
            · have e5 : x 5 = (.int .i64 (k)) := hV 5 (by decide)
              have e6 : x 6 = (.int .i64 (j)) := hV 6 (by decide)
              obtain ⟨q0, q1⟩ := hS.1.two; obtain ⟨hoc, hof⟩ := hAt.out _ hS.2.1; have q2 := hS.2.2.1; have q3 := hS.2.2.2
              go_simp
              exact hK.out _ _ _ rfl rfl rfl (Below.refl _ _)
            simp only [List.setIfInBounds_toArray, List.set_cons_zero, List.set_cons_succ]
            refine obs_step (Eq.trans (by simp only [List.getElem?_toArray, List.getElem?_cons_succ, List.getElem?_cons_zero]; exact rfl) rfl) rfl (fun w' hS hV K hK => ?_) ?_
            · have e4 : x 4 = (.slice (some ⟨g, 0, none⟩) (pw n) (pw n)) := hV 4 (by decide)
              have e5 : x 5 = (.int .i64 (k)) := hV 5 (by decide)
              have e6 : x 6 = (.int .i64 (j)) := hV 6 (by decide)
              have e7 : x 7 = (.int .i64 ((k ^^^ j : Nat))) := hV 7 (by decide)
              obtain ⟨q0, q1⟩ := hS.1.two; obtain ⟨hoc, hof⟩ := hAt.out _ hS.2.1; have q2 := hS.2.2.1; have q3 := hS.2.2.2
              go_simp
              exact hK.out _ _ _ rfl rfl rfl (Below.refl _ _)
            simp only [List.setIfInBounds_toArray, List.set_cons_zero, List.set_cons_succ]
            refine obs_step (Eq.trans (by simp only [List.getElem?_toArray, List.getElem?_cons_succ, List.getElem?_cons_zero]; exact rfl) rfl) rfl (fun w' hS hV K hK => ?_) ?_
            · have e4 : x 4 = (.slice (some ⟨g, 0, none⟩) (pw n) (pw n)) := hV 4 (by decide)
              have e5 : x 5 = (.int .i64 (k)) := hV 5 (by decide)
              have e6 : x 6 = (.int .i64 (j)) := hV 6 (by decide)
              have e7 : x 7 = (.int .i64 ((k ^^^ j : Nat))) := hV 7 (by decide)
              have e8 : x 8 = (.pointer (some ⟨g, k ^^^ j, none⟩)) := hV 8 (by decide)
              obtain ⟨q0, q1⟩ := hS.1.two; obtain ⟨hoc, hof⟩ := hAt.out _ hS.2.1; have q2 := hS.2.2.1; have q3 := hS.2.2.2
              go_simp
              exact hK.out _ _ _ rfl rfl rfl (Below.refl _ _)
            simp only [List.setIfInBounds_toArray, List.set_cons_zero, List.set_cons_succ]
            refine obs_step (Eq.trans (by simp only [List.getElem?_toArray, List.getElem?_cons_succ, List.getElem?_cons_zero]; exact rfl) rfl) rfl (fun w' hS hV K hK => ?_) ?_
            · obtain ⟨q0, q1⟩ := hS.1.two; obtain ⟨hoc, hof⟩ := hAt.out _ hS.2.1; have q2 := hS.2.2.1; have q3 := hS.2.2.2
              go_simp
              exact hK.out _ _ _ rfl rfl rfl (Below.refl _ _)
            simp only [List.setIfInBounds_toArray, List.set_cons_zero, List.set_cons_succ]
            refine obs_step (Eq.trans (by simp only [List.getElem?_toArray, List.getElem?_cons_succ, List.getElem?_cons_zero]; exact rfl) rfl) rfl (fun w' hS hV K hK => ?_) ?_
            · obtain ⟨q0, q1⟩ := hS.1.two; obtain ⟨hoc, hof⟩ := hAt.out _ hS.2.1; have q2 := hS.2.2.1; have q3 := hS.2.2.2
              go_simp
              exact hK.out _ _ _ rfl rfl rfl (Below.refl _ _)
            simp only [List.setIfInBounds_toArray, List.set_cons_zero, List.set_cons_succ]
            refine obs_step (Eq.trans (by simp only [List.getElem?_toArray, List.getElem?_cons_succ, List.getElem?_cons_zero]; exact rfl) rfl) rfl (fun w' hS hV K hK => ?_) ?_
            · have e10 : x 10 = (.slice (some ⟨gx, ox, none⟩) (pw n) cx) := hV 10 (by decide)
              have e11 : x 11 = (.int .i64 (k)) := hV 11 (by decide)
              obtain ⟨q0, q1⟩ := hS.1.two; obtain ⟨hoc, hof⟩ := hAt.out _ hS.2.1; have q2 := hS.2.2.1; have q3 := hS.2.2.2
              go_simp
              exact hK.out _ _ _ rfl rfl rfl (Below.refl _ _)
            simp only [List.setIfInBounds_toArray, List.set_cons_zero, List.set_cons_succ]
            refine obs_step (Eq.trans (by simp only [List.getElem?_toArray, List.getElem?_cons_succ, List.getElem?_cons_zero]; exact rfl) rfl) rfl (fun w' hS hV K hK => ?_) ?_
            · have e10 : x 10 = (.slice (some ⟨gx, ox, none⟩) (pw n) cx) := hV 10 (by decide)
              have e11 : x 11 = (.int .i64 (k)) := hV 11 (by decide)
              have e12 : x 12 = (.pointer (some ⟨gx, ox + k, none⟩)) := hV 12 (by decide)
              obtain ⟨q0, q1⟩ := hS.1.two; obtain ⟨hoc, hof⟩ := hAt.out _ hS.2.1; have q2 := hS.2.2.1; have q3 := hS.2.2.2
              go_simp
              exact hK.out _ _ _ rfl rfl rfl (Below.refl _ _)
            simp only [List.setIfInBounds_toArray, List.set_cons_zero, List.set_cons_succ]
            refine obs_step (Eq.trans (by simp only [List.getElem?_toArray, List.getElem?_cons_succ, List.getElem?_cons_zero]; exact rfl) rfl) rfl (fun w' hS hV K hK => ?_) ?_
            · obtain ⟨q0, q1⟩ := hS.1.two; obtain ⟨hoc, hof⟩ := hAt.out _ hS.2.1; have q2 := hS.2.2.1; have q3 := hS.2.2.2
              go_simp
              exact hK.out _ _ _ rfl rfl rfl (Below.refl _ _)
            simp only [List.setIfInBounds_toArray, List.set_cons_zero, List.set_cons_succ]
            refine obs_step (Eq.trans (by simp only [List.getElem?_toArray, List.getElem?_cons_succ, List.getElem?_cons_zero]; exact rfl) rfl) rfl (fun w' hS hV K hK => ?_) ?_
            · obtain ⟨q0, q1⟩ := hS.1.two; obtain ⟨hoc, hof⟩ := hAt.out _ hS.2.1; have q2 := hS.2.2.1; have q3 := hS.2.2.2
              go_simp
              exact hK.out _ _ _ rfl rfl rfl (Below.refl _ _)
            simp only [List.setIfInBounds_toArray, List.set_cons_zero, List.set_cons_succ]
            refine obs_step (Eq.trans (by simp only [List.getElem?_toArray, List.getElem?_cons_succ, List.getElem?_cons_zero]; exact rfl) rfl) rfl (fun w' hS hV K hK => ?_) ?_
            · have e14 : x 14 = (.slice (some ⟨gy, oy, none⟩) (pw n) cy) := hV 14 (by decide)
              have e15 : x 15 = (.int .i64 (j)) := hV 15 (by decide)
              obtain ⟨q0, q1⟩ := hS.1.two; obtain ⟨hoc, hof⟩ := hAt.out _ hS.2.1; have q2 := hS.2.2.1; have q3 := hS.2.2.2
              go_simp
              exact hK.out _ _ _ rfl rfl rfl (Below.refl _ _)
            simp only [List.setIfInBounds_toArray, List.set_cons_zero, List.set_cons_succ]
            refine obs_step (Eq.trans (by simp only [List.getElem?_toArray, List.getElem?_cons_succ, List.getElem?_cons_zero]; exact rfl) rfl) rfl (fun w' hS hV K hK => ?_) ?_
            · have e14 : x 14 = (.slice (some ⟨gy, oy, none⟩) (pw n) cy) := hV 14 (by decide)
              have e15 : x 15 = (.int .i64 (j)) := hV 15 (by decide)
              have e16 : x 16 = (.pointer (some ⟨gy, oy + j, none⟩)) := hV 16 (by decide)
              obtain ⟨q0, q1⟩ := hS.1.two; obtain ⟨hoc, hof⟩ := hAt.out _ hS.2.1; have q2 := hS.2.2.1; have q3 := hS.2.2.2
              go_simp
              exact hK.out _ _ _ rfl rfl rfl (Below.refl _ _)
            simp only [List.setIfInBounds_toArray, List.set_cons_zero, List.set_cons_succ]
            refine obs_step (Eq.trans (by simp only [List.getElem?_toArray, List.getElem?_cons_succ, List.getElem?_cons_zero]; exact rfl) rfl) rfl (fun w' hS hV K hK => ?_) ?_
            · have e10 : x 10 = (.slice (some ⟨gx, ox, none⟩) (pw n) cx) := hV 10 (by decide)
              have e11 : x 11 = (.int .i64 (k)) := hV 11 (by decide)
              have e12 : x 12 = (.pointer (some ⟨gx, ox + k, none⟩)) := hV 12 (by decide)
              have e13 : x 13 = (.int .i64 (xs[k])) := hV 13 (by decide)
              have e14 : x 14 = (.slice (some ⟨gy, oy, none⟩) (pw n) cy) := hV 14 (by decide)
              have e15 : x 15 = (.int .i64 (j)) := hV 15 (by decide)
              have e16 : x 16 = (.pointer (some ⟨gy, oy + j, none⟩)) := hV 16 (by decide)
              have e17 : x 17 = (.int .i64 (ys[j])) := hV 17 (by decide)
              obtain ⟨q0, q1⟩ := hS.1.two; obtain ⟨hoc, hof⟩ := hAt.out _ hS.2.1; have q2 := hS.2.2.1; have q3 := hS.2.2.2
              go_simp
              exact hK.out _ _ _ rfl rfl rfl (Below.refl _ _)
            simp only [List.setIfInBounds_toArray, List.set_cons_zero, List.set_cons_succ]
            refine obs_step (Eq.trans (by simp only [List.getElem?_toArray, List.getElem?_cons_succ, List.getElem?_cons_zero]; exact rfl) rfl) rfl (fun w' hS hV K hK => ?_) ?_
            · obtain ⟨q0, q1⟩ := hS.1.two; obtain ⟨hoc, hof⟩ := hAt.out _ hS.2.1; have q2 := hS.2.2.1; have q3 := hS.2.2.2
              go_simp
              exact hK.out _ _ _ rfl rfl rfl (Below.refl _ _)
            simp only [List.setIfInBounds_toArray, List.set_cons_zero, List.set_cons_succ]
            refine obs_step (Eq.trans (by simp only [List.getElem?_toArray, List.getElem?_cons_succ, List.getElem?_cons_zero]; exact rfl) rfl) rfl (fun w' hS hV K hK => ?_) ?_
            · have e19 : x 19 = (.pointer (some ⟨w.heap.size, 0, none⟩)) := hV 19 (by decide)
              obtain ⟨q0, q1⟩ := hS.1.two; obtain ⟨hoc, hof⟩ := hAt.out _ hS.2.1; have q2 := hS.2.2.1; have q3 := hS.2.2.2
              go_simp
              exact hK.out _ _ _ rfl rfl rfl (Below.refl _ _)
            simp only [List.setIfInBounds_toArray, List.set_cons_zero, List.set_cons_succ]
            refine obs_step (Eq.trans (by simp only [List.getElem?_toArray, List.getElem?_cons_succ, List.getElem?_cons_zero]; exact rfl) rfl) rfl (fun w' hS hV K hK => ?_) ?_
            · have e10 : x 10 = (.slice (some ⟨gx, ox, none⟩) (pw n) cx) := hV 10 (by decide)
              have e11 : x 11 = (.int .i64 (k)) := hV 11 (by decide)
              have e12 : x 12 = (.pointer (some ⟨gx, ox + k, none⟩)) := hV 12 (by decide)
              have e13 : x 13 = (.int .i64 (xs[k])) := hV 13 (by decide)
              have e14 : x 14 = (.slice (some ⟨gy, oy, none⟩) (pw n) cy) := hV 14 (by decide)
              have e15 : x 15 = (.int .i64 (j)) := hV 15 (by decide)
              have e16 : x 16 = (.pointer (some ⟨gy, oy + j, none⟩)) := hV 16 (by decide)
              have e17 : x 17 = (.int .i64 (ys[j])) := hV 17 (by decide)
              have e18 : x 18 = (.int .i64 (xs[k] * ys[j])) := hV 18 (by decide)
              have e19 : x 19 = (.pointer (some ⟨w.heap.size, 0, none⟩)) := hV 19 (by decide)
              have e20 : x 20 = (.int .i64 (P)) := hV 20 (by decide)
              obtain ⟨q0, q1⟩ := hS.1.two; obtain ⟨hoc, hof⟩ := hAt.out _ hS.2.1; have q2 := hS.2.2.1; have q3 := hS.2.2.2
              go_simp
              exact hK.out _ _ _ rfl rfl rfl (Below.refl _ _)
            simp only [List.setIfInBounds_toArray, List.set_cons_zero, List.set_cons_succ]
            refine obs_step (Eq.trans (by simp only [List.getElem?_toArray, List.getElem?_cons_succ, List.getElem?_cons_zero]; exact rfl) rfl) rfl (fun w' hS hV K hK => ?_) ?_
            · obtain ⟨q0, q1⟩ := hS.1.two; obtain ⟨hoc, hof⟩ := hAt.out _ hS.2.1; have q2 := hS.2.2.1; have q3 := hS.2.2.2
              go_simp
              exact hK.out _ _ _ rfl rfl rfl (Below.refl _ _)
            simp only [List.setIfInBounds_toArray, List.set_cons_zero, List.set_cons_succ]
            refine obs_step (Eq.trans (by simp only [List.getElem?_toArray, List.getElem?_cons_succ, List.getElem?_cons_zero]; exact rfl) rfl) rfl (fun w' hS hV K hK => ?_) ?_
            · obtain ⟨q0, q1⟩ := hS.1.two; obtain ⟨hoc, hof⟩ := hAt.out _ hS.2.1; have q2 := hS.2.2.1; have q3 := hS.2.2.2
              go_simp
              exact hK.out _ _ _ rfl rfl rfl (Below.refl _ _)
            simp only [List.setIfInBounds_toArray, List.set_cons_zero, List.set_cons_succ]
            refine obs_step (Eq.trans (by simp only [List.getElem?_toArray, List.getElem?_cons_succ, List.getElem?_cons_zero]; exact rfl) rfl) rfl (fun w' hS hV K hK => ?_) ?_
            · obtain ⟨q0, q1⟩ := hS.1.two; obtain ⟨hoc, hof⟩ := hAt.out _ hS.2.1; have q2 := hS.2.2.1; have q3 := hS.2.2.2
              go_simp
              exact hK.out _ _ _ rfl rfl rfl (Below.refl _ _)
            simp only [List.setIfInBounds_toArray, List.set_cons_zero, List.set_cons_succ]
            refine obs_step (Eq.trans (by simp only [List.getElem?_toArray, List.getElem?_cons_succ, List.getElem?_cons_zero]; exact rfl) rfl) rfl (fun w' hS hV K hK => ?_) ?_
            · have e22 : x 22 = (.agg #[.int .i64 P, .slice A n c]) := hV 22 (by decide)
              have e23 : x 23 = (.int .i64 (k)) := hV 23 (by decide)
              have e24 : x 24 = (.int .i64 (j)) := hV 24 (by decide)
              obtain ⟨q0, q1⟩ := hS.1.two; obtain ⟨hoc, hof⟩ := hAt.out _ hS.2.1; have q2 := hS.2.2.1; have q3 := hS.2.2.2
              go_simp
              refine (hF.out _ hS.2.1).mono ?_
              rintro e v1 ⟨rfl, hb⟩
              exact hK.out _ _ _ rfl rfl rfl hb
            simp only [List.setIfInBounds_toArray, List.set_cons_zero, List.set_cons_succ]
            refine obs_step (Eq.trans (by simp only [List.getElem?_toArray, List.getElem?_cons_succ, List.getElem?_cons_zero]; exact rfl) rfl) rfl (fun w' hS hV K hK => ?_) ?_
            · have e10 : x 10 = (.slice (some ⟨gx, ox, none⟩) (pw n) cx) := hV 10 (by decide)
              have e11 : x 11 = (.int .i64 (k)) := hV 11 (by decide)
              have e12 : x 12 = (.pointer (some ⟨gx, ox + k, none⟩)) := hV 12 (by decide)
              have e13 : x 13 = (.int .i64 (xs[k])) := hV 13 (by decide)
              have e14 : x 14 = (.slice (some ⟨gy, oy, none⟩) (pw n) cy) := hV 14 (by decide)
              have e15 : x 15 = (.int .i64 (j)) := hV 15 (by decide)
              have e16 : x 16 = (.pointer (some ⟨gy, oy + j, none⟩)) := hV 16 (by decide)
              have e17 : x 17 = (.int .i64 (ys[j])) := hV 17 (by decide)
              have e18 : x 18 = (.int .i64 (xs[k] * ys[j])) := hV 18 (by decide)
              have e19 : x 19 = (.pointer (some ⟨w.heap.size, 0, none⟩)) := hV 19 (by decide)
              have e20 : x 20 = (.int .i64 (P)) := hV 20 (by decide)
              have e21 : x 21 = (.int .i64 (xs[k] * ys[j] % P)) := hV 21 (by decide)
              have e22 : x 22 = (.agg #[.int .i64 P, .slice A n c]) := hV 22 (by decide)
              have e23 : x 23 = (.int .i64 (k)) := hV 23 (by decide)
              have e24 : x 24 = (.int .i64 (j)) := hV 24 (by decide)
              have e25 : x 25 = (.int .i64 (fac P sq k j)) := hV 25 (by decide)
              obtain ⟨q0, q1⟩ := hS.1.two; obtain ⟨hoc, hof⟩ := hAt.out _ hS.2.1; have q2 := hS.2.2.1; have q3 := hS.2.2.2
              go_simp
              exact hK.out _ _ _ rfl rfl rfl (Below.refl _ _)
            simp only [List.setIfInBounds_toArray, List.set_cons_zero, List.set_cons_succ]
            refine obs_step (Eq.trans (by simp only [List.getElem?_toArray, List.getElem?_cons_succ, List.getElem?_cons_zero]; exact rfl) rfl) rfl (fun w' hS hV K hK => ?_) ?_
            · have e4 : x 4 = (.slice (some ⟨g, 0, none⟩) (pw n) (pw n)) := hV 4 (by decide)
              have e5 : x 5 = (.int .i64 (k)) := hV 5 (by decide)
              have e6 : x 6 = (.int .i64 (j)) := hV 6 (by decide)
              have e7 : x 7 = (.int .i64 ((k ^^^ j : Nat))) := hV 7 (by decide)
              have e8 : x 8 = (.pointer (some ⟨g, k ^^^ j, none⟩)) := hV 8 (by decide)
              have e9 : x 9 = (.int .i64 (v0)) := hV 9 (by decide)
              have e10 : x 10 = (.slice (some ⟨gx, ox, none⟩) (pw n) cx) := hV 10 (by decide)
              have e11 : x 11 = (.int .i64 (k)) := hV 11 (by decide)
              have e12 : x 12 = (.pointer (some ⟨gx, ox + k, none⟩)) := hV 12 (by decide)
              have e13 : x 13 = (.int .i64 (xs[k])) := hV 13 (by decide)
              have e14 : x 14 = (.slice (some ⟨gy, oy, none⟩) (pw n) cy) := hV 14 (by decide)
              have e15 : x 15 = (.int .i64 (j)) := hV 15 (by decide)
              have e16 : x 16 = (.pointer (some ⟨gy, oy + j, none⟩)) := hV 16 (by decide)
              have e17 : x 17 = (.int .i64 (ys[j])) := hV 17 (by decide)
              have e18 : x 18 = (.int .i64 (xs[k] * ys[j])) := hV 18 (by decide)
              have e19 : x 19 = (.pointer (some ⟨w.heap.size, 0, none⟩)) := hV 19 (by decide)
              have e20 : x 20 = (.int .i64 (P)) := hV 20 (by decide)
              have e21 : x 21 = (.int .i64 (xs[k] * ys[j] % P)) := hV 21 (by decide)
              have e22 : x 22 = (.agg #[.int .i64 P, .slice A n c]) := hV 22 (by decide)
              have e23 : x 23 = (.int .i64 (k)) := hV 23 (by decide)
              have e24 : x 24 = (.int .i64 (j)) := hV 24 (by decide)
              have e25 : x 25 = (.int .i64 (fac P sq k j)) := hV 25 (by decide)
              have e26 : x 26 = (.int .i64 (xs[k] * ys[j] % P * fac P sq k j)) := hV 26 (by decide)
              obtain ⟨q0, q1⟩ := hS.1.two; obtain ⟨hoc, hof⟩ := hAt.out _ hS.2.1; have q2 := hS.2.2.1; have q3 := hS.2.2.2
              go_simp
              exact hK.out _ _ _ rfl rfl rfl (Below.refl _ _)
            simp only [List.setIfInBounds_toArray, List.set_cons_zero, List.set_cons_succ]
            refine obs_step (Eq.trans (by simp only [List.getElem?_toArray, List.getElem?_cons_succ, List.getElem?_cons_zero]; exact rfl) rfl) rfl (fun w' hS hV K hK => ?_) ?_
            · obtain ⟨q0, q1⟩ := hS.1.two; obtain ⟨hoc, hof⟩ := hAt.out _ hS.2.1; have q2 := hS.2.2.1; have q3 := hS.2.2.2
              go_simp
              exact hK.out _ _ _ rfl rfl rfl (Below.refl _ _)
            simp only [List.setIfInBounds_toArray, List.set_cons_zero, List.set_cons_succ]
            refine obs_step (Eq.trans (by simp only [List.getElem?_toArray, List.getElem?_cons_succ, List.getElem?_cons_zero]; exact rfl) rfl) rfl (fun w' hS hV K hK => ?_) ?_
            · have e28 : x 28 = (.pointer (some ⟨w.heap.size, 0, none⟩)) := hV 28 (by decide)
              obtain ⟨q0, q1⟩ := hS.1.two; obtain ⟨hoc, hof⟩ := hAt.out _ hS.2.1; have q2 := hS.2.2.1; have q3 := hS.2.2.2
              go_simp
              exact hK.out _ _ _ rfl rfl rfl (Below.refl _ _)
            simp only [List.setIfInBounds_toArray, List.set_cons_zero, List.set_cons_succ]
            refine obs_step (Eq.trans (by simp only [List.getElem?_toArray, List.getElem?_cons_succ, List.getElem?_cons_zero]; exact rfl) rfl) rfl (fun w' hS hV K hK => ?_) ?_
            · have e4 : x 4 = (.slice (some ⟨g, 0, none⟩) (pw n) (pw n)) := hV 4 (by decide)
              have e5 : x 5 = (.int .i64 (k)) := hV 5 (by decide)
              have e6 : x 6 = (.int .i64 (j)) := hV 6 (by decide)
              have e7 : x 7 = (.int .i64 ((k ^^^ j : Nat))) := hV 7 (by decide)
              have e8 : x 8 = (.pointer (some ⟨g, k ^^^ j, none⟩)) := hV 8 (by decide)
              have e9 : x 9 = (.int .i64 (v0)) := hV 9 (by decide)
              have e10 : x 10 = (.slice (some ⟨gx, ox, none⟩) (pw n) cx) := hV 10 (by decide)
              have e11 : x 11 = (.int .i64 (k)) := hV 11 (by decide)
              have e12 : x 12 = (.pointer (some ⟨gx, ox + k, none⟩)) := hV 12 (by decide)
              have e13 : x 13 = (.int .i64 (xs[k])) := hV 13 (by decide)
              have e14 : x 14 = (.slice (some ⟨gy, oy, none⟩) (pw n) cy) := hV 14 (by decide)
              have e15 : x 15 = (.int .i64 (j)) := hV 15 (by decide)
              have e16 : x 16 = (.pointer (some ⟨gy, oy + j, none⟩)) := hV 16 (by decide)
              have e17 : x 17 = (.int .i64 (ys[j])) := hV 17 (by decide)
              have e18 : x 18 = (.int .i64 (xs[k] * ys[j])) := hV 18 (by decide)
              have e19 : x 19 = (.pointer (some ⟨w.heap.size, 0, none⟩)) := hV 19 (by decide)
              have e20 : x 20 = (.int .i64 (P)) := hV 20 (by decide)
              have e21 : x 21 = (.int .i64 (xs[k] * ys[j] % P)) := hV 21 (by decide)
              have e22 : x 22 = (.agg #[.int .i64 P, .slice A n c]) := hV 22 (by decide)
              have e23 : x 23 = (.int .i64 (k)) := hV 23 (by decide)
              have e24 : x 24 = (.int .i64 (j)) := hV 24 (by decide)
              have e25 : x 25 = (.int .i64 (fac P sq k j)) := hV 25 (by decide)
              have e26 : x 26 = (.int .i64 (xs[k] * ys[j] % P * fac P sq k j)) := hV 26 (by decide)
              have e27 : x 27 = (.int .i64 (v0 + xs[k] * ys[j] % P * fac P sq k j)) := hV 27 (by decide)
              have e28 : x 28 = (.pointer (some ⟨w.heap.size, 0, none⟩)) := hV 28 (by decide)
              have e29 : x 29 = (.int .i64 (P)) := hV 29 (by decide)
              obtain ⟨q0, q1⟩ := hS.1.two; obtain ⟨hoc, hof⟩ := hAt.out _ hS.2.1; have q2 := hS.2.2.1; have q3 := hS.2.2.2
              go_simp
              exact hK.out _ _ _ rfl rfl rfl (Below.refl _ _)
            simp only [List.setIfInBounds_toArray, List.set_cons_zero, List.set_cons_succ]
            refine obs_step (Eq.trans (by simp only [List.getElem?_toArray, List.getElem?_cons_succ, List.getElem?_cons_zero]; exact rfl) rfl) rfl (fun w' hS hV K hK => ?_) ?_
            · have e0 : x 0 = (.slice (some ⟨g, 0, none⟩) (pw n) (pw n)) := hV 0 (by decide)
              have e1 : x 1 = (.int .i64 (k)) := hV 1 (by decide)
              have e2 : x 2 = (.int .i64 (j)) := hV 2 (by decide)
              have e3 : x 3 = (.int .i64 ((k ^^^ j : Nat))) := hV 3 (by decide)
              obtain ⟨q0, q1⟩ := hS.1.two; obtain ⟨hoc, hof⟩ := hAt.out _ hS.2.1; have q2 := hS.2.2.1; have q3 := hS.2.2.2
              go_simp
              exact hK.out _ _ _ rfl rfl rfl (Below.refl _ _)
            simp only [List.setIfInBounds_toArray, List.set_cons_zero, List.set_cons_succ]
            refine fun w' hS hV => ?_
            have e0 : x 0 = (.slice (some ⟨g, 0, none⟩) (pw n) (pw n)) := hV 0 (by decide)
            have e1 : x 1 = (.int .i64 (k)) := hV 1 (by decide)
            have e2 : x 2 = (.int .i64 (j)) := hV 2 (by decide)
            have e3 : x 3 = (.int .i64 ((k ^^^ j : Nat))) := hV 3 (by decide)
            have e4 : x 4 = (.slice (some ⟨g, 0, none⟩) (pw n) (pw n)) := hV 4 (by decide)
            have e5 : x 5 = (.int .i64 (k)) := hV 5 (by decide)
            have e6 : x 6 = (.int .i64 (j)) := hV 6 (by decide)
            have e7 : x 7 = (.int .i64 ((k ^^^ j : Nat))) := hV 7 (by decide)
            have e8 : x 8 = (.pointer (some ⟨g, k ^^^ j, none⟩)) := hV 8 (by decide)
            have e9 : x 9 = (.int .i64 (v0)) := hV 9 (by decide)
            have e10 : x 10 = (.slice (some ⟨gx, ox, none⟩) (pw n) cx) := hV 10 (by decide)
            have e11 : x 11 = (.int .i64 (k)) := hV 11 (by decide)
            have e12 : x 12 = (.pointer (some ⟨gx, ox + k, none⟩)) := hV 12 (by decide)
            have e13 : x 13 = (.int .i64 (xs[k])) := hV 13 (by decide)
            have e14 : x 14 = (.slice (some ⟨gy, oy, none⟩) (pw n) cy) := hV 14 (by decide)
            have e15 : x 15 = (.int .i64 (j)) := hV 15 (by decide)
            have e16 : x 16 = (.pointer (some ⟨gy, oy + j, none⟩)) := hV 16 (by decide)
            have e17 : x 17 = (.int .i64 (ys[j])) := hV 17 (by decide)
            have e18 : x 18 = (.int .i64 (xs[k] * ys[j])) := hV 18 (by decide)
            have e19 : x 19 = (.pointer (some ⟨w.heap.size, 0, none⟩)) := hV 19 (by decide)
            have e20 : x 20 = (.int .i64 (P)) := hV 20 (by decide)
            have e21 : x 21 = (.int .i64 (xs[k] * ys[j] % P)) := hV 21 (by decide)
            have e22 : x 22 = (.agg #[.int .i64 P, .slice A n c]) := hV 22 (by decide)
            have e23 : x 23 = (.int .i64 (k)) := hV 23 (by decide)
            have e24 : x 24 = (.int .i64 (j)) := hV 24 (by decide)
            have e25 : x 25 = (.int .i64 (fac P sq k j)) := hV 25 (by decide)
            have e26 : x 26 = (.int .i64 (xs[k] * ys[j] % P * fac P sq k j)) := hV 26 (by decide)
            have e27 : x 27 = (.int .i64 (v0 + xs[k] * ys[j] % P * fac P sq k j)) := hV 27 (by decide)
            have e28 : x 28 = (.pointer (some ⟨w.heap.size, 0, none⟩)) := hV 28 (by decide)
            have e29 : x 29 = (.int .i64 (P)) := hV 29 (by decide)
            have e30 : x 30 = (.int .i64 ((v0 + xs[k] * ys[j] % P * fac P sq k j) % P)) := hV 30 (by decide)
            have e31 : x 31 = (.pointer (some ⟨g, k ^^^ j, none⟩)) := hV 31 (by decide)
            simp only [e0, e1, e2, e3, e4, e5, e6, e7, e8, e9, e10, e11, e12, e13, e14, e15, e16, e17, e18, e19, e20, e21, e22, e23, e24, e25, e26, e27, e28, e29, e30, e31]
            clear e0 e1 e2 e3 e4 e5 e6 e7 e8 e9 e10 e11 e12 e13 e14 e15 e16 e17 e18 e19 e20 e21 e22 e23 e24 e25 e26 e27 e28 e29 e30 e31
            obtain ⟨hk4, hO, s3, s4⟩ := hS
            obtain ⟨hoc, hof⟩ := hAt.out _ hO
            refine any_one (j := 32) (by kernel_rfl) (Eq.trans (by simp only [List.getElem?_toArray, List.getElem?_cons_succ, List.getElem?_cons_zero]; exact rfl) rfl) (fun K hK => ?_)
            go_simp
            refine hK.out _ _ (wpAny_done (by kernel_rfl) ?_ _)
            have hset := (hO.set (k ^^^ j) (.int .i64 ((v0 + xs[k] * ys[j] % P * fac P sq k j) % P))).1
            rw [ints_set] at hset
            have hkn := hk4.far (p := ⟨g, k ^^^ j, none⟩) HNE.out.1.symm (.int .i64 ((v0 + xs[k] * ys[j] % P * fac P sq k j) % P))
            clear W1 W2 W3 T1 T2 hoc hof hO hk4
            go_wp2
            go_roundw
            case rel => exact ⟨j + 1, by omega, by go_num, by rw [addRow_succ, ← addPair_all (by omega) HNR.out HF1.out, ← HV0.out, hxn.out, hyn.out, ← mod_mul_add v0 (xs[k] * ys[j]) (fac P sq k j) P]; exact hset, hkn⟩
            case measure => simp [intOf]; omega
        · obtain rfl : j = pw n := by omega
          have HM := Lib.hid hM3
          clear hM3
          go_wp2
          go_roundw
          case rel => exact ⟨k + 1, by omega, by go_num, by rw [addRows_succ, Hy.out, ← HL0.out]; exact HM.out, hk3⟩
          case measure => simp [intOf]; omega
    · obtain rfl : k = pw n := by omega
      go_wp2
      go_ret
      exact ⟨_, _, rfl, by rw [HDL.out]; exact hM2⟩
set_option maxRecDepth 8000 in
set_option maxHeartbeats 800000 in
set_option maxRecDepth 8000 in
theorem l05Wedge_any (P : Int) (A : Option Addr) (n c : Nat) (sq : List Int) (X : Option Addr) (cx : Nat) (xs : List Int) (Y : Option Addr) (cy : Nat) (ys : List Int) (w : World) (hp : 2 ≤ P) (hp2 : P ≤ 13) (hn : n ≤ 6)
    (ha : Rd w A n (ints sq)) (hs : NumsL P sq) (hx : Rd w X (pw n) (ints xs)) (hxs : NumsL P xs) (hy : Rd w Y (pw n) (ints ys)) (hys : NumsL P ys) :
    Calls Tryz.prog 145 #[.agg #[.int .i64 P, .slice A n c], .slice X (pw n) cx, .slice Y (pw n) cy] w fun e w' => ∃ A' c', e = .returned (.slice A' (pw n) c') ∧ MkI w w' A' (pw n) c' (wedgeL P sq xs ys) := by
  have hcall := fun w' (hb : Below w.heap.size w w') => l05Kind_0 P A n c sq X cx xs Y cy ys w' hp hp2 hn (ha.below hb) hs (hx.below hb) hxs (hy.below hb) hys
  have HC := Lib.hid hcall
  clear hcall
  go_enter Tryz.func145, Tryz.ntmps145
  go_wp2_with (go_at_call 168; first | (refine (HC.out _ (Below.refl _ _)).mono ?_; rintro e w2 ⟨G2, d2, rfl, hM3⟩) | (refine (HC.out _ ((Below.refl _ _).alloc (Nat.le_refl _) _)).mono ?_; rintro e w2 ⟨G2, d2, rfl, hM4⟩; have hM3 := hM4.after ((Below.refl _ w).alloc (Nat.le_refl _) (.cells #[.int .i64 P, .slice A n c] 28)); clear hM4))
  go_ret
  exact ⟨_, _, rfl, hM3⟩
set_option maxRecDepth 8000 in
set_option maxHeartbeats 800000 in
set_option maxRecDepth 8000 in
theorem l05Left_any (P : Int) (A : Option Addr) (n c : Nat) (sq : List Int) (X : Option Addr) (cx : Nat) (xs : List Int) (Y : Option Addr) (cy : Nat) (ys : List Int) (w : World) (hp : 2 ≤ P) (hp2 : P ≤ 13) (hn : n ≤ 6)
    (ha : Rd w A n (ints sq)) (hs : NumsL P sq) (hx : Rd w X (pw n) (ints xs)) (hxs : NumsL P xs) (hy : Rd w Y (pw n) (ints ys)) (hys : NumsL P ys) :
    Calls Tryz.prog 146 #[.agg #[.int .i64 P, .slice A n c], .slice X (pw n) cx, .slice Y (pw n) cy] w fun e w' => ∃ A' c', e = .returned (.slice A' (pw n) c') ∧ MkI w w' A' (pw n) c' (contrL P sq xs ys) := by
  have hcall := fun w' (hb : Below w.heap.size w w') => l05Kind_1 P A n c sq X cx xs Y cy ys w' hp hp2 hn (ha.below hb) hs (hx.below hb) hxs (hy.below hb) hys
  have HC := Lib.hid hcall
  clear hcall
  go_enter Tryz.func146, Tryz.ntmps146
  go_wp2_with (go_at_call 168; first | (refine (HC.out _ (Below.refl _ _)).mono ?_; rintro e w2 ⟨G2, d2, rfl, hM3⟩) | (refine (HC.out _ ((Below.refl _ _).alloc (Nat.le_refl _) _)).mono ?_; rintro e w2 ⟨G2, d2, rfl, hM4⟩; have hM3 := hM4.after ((Below.refl _ w).alloc (Nat.le_refl _) (.cells #[.int .i64 P, .slice A n c] 28)); clear hM4))
  go_ret
  exact ⟨_, _, rfl, hM3⟩
end Go.Proofs.YticofgmmjecleaaGreatDoor
namespace Go.Proofs.YticofgmmjecleaaGreatDoor
open Go.RowKit
/-- A search by a function of one captured pointer that answers of a row what p says and changes nothing that was there. -/
def Tells (f : FuncId) (cap : Array Value) (w : World) (p : List Int → Bool) (ok : List Int → Prop) : Prop :=
  ∀ (w' : World) (A : Option Addr) (m c : Nat) (xs : List Int), Below w.heap.size w w' → Rd w' A m (ints xs) → ok xs →
    Calls Tryz.prog f (#[.slice A m c] ++ cap) w' fun e w'' => e = .returned (.bool (p xs)) ∧ Below w'.heap.size w' w''
set_option maxHeartbeats 800000 in
set_option maxRecDepth 8000 in
theorem IndexFunc_any (f : FuncId) (q : Addr) (p : List Int → Bool) (ok : List Int → Prop) (A : Option Addr) (n c : Nat) (xss : List (List Int)) (w : World) (hn : n ≤ 1099511627776) (ha : RdII w A n xss) (hok : ∀ xs ∈ xss, ok xs)
    (hf : Tells f #[.pointer (some q)] w p ok) (hcf : ∀ (args : Array Value) (w : World), (callFunc f args).run Tryz.prog w = .ok (.enter f args) w) :
    Calls Tryz.prog 123 #[.slice A n c, .func (.func f) #[] #[.pointer (some q)]] w fun e w' => ∃ r : Int, e = .returned (.int .i64 r) ∧ decide (0 ≤ r) = xss.any p ∧ Below w.heap.size w w' := by
  have hxl := ha.len
  have Hx := Lib.hid hxl; clear hxl
  go_enter Tryz.func123, Tryz.ntmps123
  go_wp2
  go_loopw [8] (fun i wr => ∃ k : Nat, k ≤ n ∧ i = .int .i64 k ∧ (xss.take k).any p = false ∧ Below w.heap.size w wr) (fun i _ => n - (intOf i).toNat)
  case atStart => exact ⟨0, by omega, rfl, by simp, Below.refl _ _⟩
  case round =>
    obtain ⟨k, hk, rfl, ht, hB⟩ := hrel
    have H := Lib.hid ht; clear ht
    by_cases hlt : k < n
    · obtain ⟨g, o, rfl, hx, A', c', hcx, hr, -⟩ := (ha.below hB).at_ hlt
      have hoki := hok xss[k] (List.getElem_mem hx)
      clear ha
      cases hi : p xss[k]
      all_goals
        have HI := Lib.hid hi; clear hi
        go_wp2_with fail
        refine (hf _ _ _ _ _ hB hr hoki).mono ?_
        rintro e w1 ⟨rfl, hb1⟩
        rw [HI.out]
        go_wp2
      · go_roundw
        case rel =>
          refine ⟨k + 1, by omega, by go_num, ?_, hB.trans (hb1.mono hB.size)⟩
          rw [List.take_succ_eq_append_getElem hx, List.any_append, H.out]
          simpa using HI.out
        case measure => simp [intOf]; omega
      · go_ret
        refine ⟨_, rfl, ?_, hB.trans (hb1.mono hB.size)⟩
        have : xss.any p = true := List.any_eq_true.2 ⟨xss[k], List.getElem_mem hx, HI.out⟩
        rw [this]; simp
    · go_wp2
      go_ret
      refine ⟨_, rfl, ?_, hB⟩
      have := H.out
      rw [List.take_of_length_le (by rw [Hx.out]; omega)] at this
      rw [this]; simp
set_option maxHeartbeats 400000 in
set_option maxRecDepth 8000 in
theorem ContainsFunc_any (f : FuncId) (q : Addr) (p : List Int → Bool) (ok : List Int → Prop) (A : Option Addr) (n c : Nat) (xss : List (List Int)) (w : World) (hn : n ≤ 1099511627776) (ha : RdII w A n xss) (hok : ∀ xs ∈ xss, ok xs)
    (hf : Tells f #[.pointer (some q)] w p ok) (hcf : ∀ (args : Array Value) (w : World), (callFunc f args).run Tryz.prog w = .ok (.enter f args) w) :
    Calls Tryz.prog 96 #[.slice A n c, .func (.func f) #[] #[.pointer (some q)]] w fun e w' => e = .returned (.bool (xss.any p)) ∧ Below w.heap.size w w' := by
  go_enter Tryz.func96, Tryz.ntmps96
  go_wp2_with fail
  refine (IndexFunc_any _ _ _ _ _ _ _ _ _ hn ha hok hf hcf).mono ?_
  rintro e w1 ⟨r, rfl, hr, hb⟩
  have HR := Lib.hid hr; clear hr
  go_wp2
  go_ret
  exact ⟨ret_bool HR.out, hb⟩
end Go.Proofs.YticofgmmjecleaaGreatDoor
namespace Go.Proofs.YticofgmmjecleaaGreatDoor
open Go.RowKit
set_option maxRecDepth 8000 in
set_option maxHeartbeats 400000 in
set_option maxRecDepth 8000 in
theorem clone_any (A : Option Addr) (n c : Nat) (xs : List Int) (w : World) (hn : n ≤ 65536) (ha : Rd w A n (ints xs)) :
    Calls Tryz.prog 139 #[.slice A n c] w fun e w' => ∃ A' c', e = .returned (.slice A' n c') ∧ MkI w w' A' n c' xs := by
  have hxl : xs.length = n := by have := ha.1; rwa [ints_length] at this
  cases A with
  | none =>
    have h0 : n = 0 := by
      rcases Nat.eq_zero_or_pos n with h | h
      · exact h
      · obtain ⟨g, o, e, _⟩ := ha.2 h; cases e
    subst h0
    have hxs : xs = [] := List.eq_nil_of_length_eq_zero hxl
    subst hxs
    clear ha hxl hn
    have hq := fun w : World => Lib.run_eql_slice_nil (P := Tryz.prog) w 22 2 none 0 c 0 0 Tryz.underlying22
    simp only [Option.isNone_none] at hq
    go_enter Tryz.func139, Tryz.ntmps139
    go_wp2
    go_ret
    exact ⟨none, 0, rfl, Mk.nil (Below.refl _ _)⟩
  | some p =>
    have hM0 := Mk.lit (E := 2) (Below.refl w.heap.size w) #[] (by simp)
    obtain ⟨i, hi, h1, h2, h3⟩ := info_parts info_i
    obtain ⟨b1, b2⟩ := bound_of (Nat.le_trans hn (by decide))
    clear b1
    have HB := Lib.hid b2
    clear b2
    have hnews : ∀ (j : Nat) (u : Value), (ints xs)[j]? = some u → (w.alloc (.cells #[] 2)).cell? (p.add j) = some u := fun j u hu => by
      have hj : j < n := by have := (List.getElem?_eq_some_iff.1 hu).1; rw [ints_length] at this; omega
      obtain ⟨g, o, e, hc⟩ := (ha.below ((Below.refl _ w).alloc (Nat.le_refl _) (.cells #[] 2))).2 (by omega)
      injection e with e; subst e
      rw [Addr.add_lit]
      exact hc j u hu
    have Hx := Lib.hid hxl
    have HN := Lib.hid hnews
    have HI := Lib.hid hi
    have H1 := Lib.hid h1
    have H2 := Lib.hid h2
    have H3 := Lib.hid h3
    clear hnews hi h1 h2 h3 hxl
    have hq := fun w : World => Lib.run_eql_slice_nil (P := Tryz.prog) w 22 2 (some p) n c 0 0 Tryz.underlying22
    simp only [Option.isNone_some] at hq
    go_enter Tryz.func139, Tryz.ntmps139
    go_wp2_with (at_builtin; refine wpList_append_own_at (w.alloc (.cells #[] 2)) rfl _ _ 22 rfl w.heap.size 2 i _ 1 8 Tryz.underlying22 HI.out H1.out H2.out H3.out rfl (by omega) (.slice (some ⟨w.heap.size, 0, none⟩) 0 0) 0 [] rfl hM0.2 p n c (ints xs) rfl (by rw [ints_length, Hx.out, Nat.mul_one]) HN.out (by intro u hu; obtain ⟨y, _, rfl⟩ := List.mem_map.1 hu; rfl) (by simp only [maxLen]; omega) (by have := HB.out 8 (by omega); omega) (by simp) ?_; intro v' w' hown hg _ _)
    have hb' : Below w.heap.size w w' := hM0.1.grown hg (by simp) (fun k hk => (hM0.2.lt k hk).1)
    rw [Nat.zero_add, List.nil_append] at hown
    rcases hown.2 with ⟨rfl, h0⟩ | ⟨g, cap, cur, rfl, hr⟩
    · subst h0
      go_ret
      exact ⟨none, 0, rfl, hb', hown⟩
    · go_ret
      exact ⟨_, _, rfl, hb', hown⟩
/-- The blades of the grades that t tells turned to their negatives. -/
def sgnL (p : Int) (t : Nat → Bool) (xs : List Int) : List Int := tab xs.length fun i => if t (pc i) then (-(xs.getD i 0)) % p else xs.getD i 0
theorem sgnL_len (p : Int) (t : Nat → Bool) (xs : List Int) : (sgnL p t xs).length = xs.length := tab_len _ _
theorem sgnL_nums {p : Int} (hp : 0 < p) (t : Nat → Bool) {xs : List Int} (h : NumsL p xs) : NumsL p (sgnL p t xs) := NumsL.tab fun i _ => by
  split
  · exact ⟨Int.emod_nonneg _ (by omega), Int.emod_lt_of_pos _ hp⟩
  · exact h.getD hp i
/-- The first k places of f, then those of xs. -/
def mixL (f : Nat → Int) (xs : List Int) (k : Nat) : List Int := tab xs.length fun i => if i < k then f i else xs.getD i 0
theorem mixL_len (f : Nat → Int) (xs : List Int) (k : Nat) : (mixL f xs k).length = xs.length := tab_len _ _
theorem mixL_zero (f : Nat → Int) (xs : List Int) : mixL f xs 0 = xs := by
  refine Eq.trans (tab_congr fun i _ => ?_) (eq_tab 0 rfl).symm
  rw [if_neg (by omega)]
theorem mixL_all (f : Nat → Int) (xs : List Int) : mixL f xs xs.length = tab xs.length f := tab_congr fun _i hi => if_pos hi
theorem mixL_succ (f : Nat → Int) (xs : List Int) (k : Nat) (hk : k < xs.length) : mixL f xs (k + 1) = (mixL f xs k).set k (f k) := by
  apply list_ext_getD 0 (by rw [List.length_set, mixL_len, mixL_len])
  intro i hi
  rw [mixL_len] at hi
  rw [getD_set, mixL_len]
  unfold mixL
  rw [tab_getD hi, tab_getD hi]
  by_cases h : k = i
  · subst h; rw [if_pos (by omega), if_pos ⟨rfl, hk⟩]
  · rw [if_neg (c := k = i ∧ _) (fun hh => h hh.1)]
    by_cases h2 : i < k
    · rw [if_pos (by omega), if_pos h2]
    · rw [if_neg (by omega), if_neg h2]
theorem mixL_skip (f : Nat → Int) (xs : List Int) (k : Nat) (hf : f k = xs.getD k 0) : mixL f xs (k + 1) = mixL f xs k := by
  refine tab_congr fun i _ => ?_
  by_cases h : i < k
  · rw [if_pos (by omega), if_pos h]
  · by_cases h2 : i = k
    · subst h2; rw [if_pos (by omega), if_neg (by omega), hf]
    · rw [if_neg (by omega), if_neg h]
set_option maxHeartbeats 1600000 in
set_option maxRecDepth 8000 in
theorem signed_any (f : FuncId) (t : Nat → Bool) (hf : ∀ (k : Nat) (w : World), k ≤ 6 → Calls Tryz.prog f #[.int .i64 k] w fun e w' => e = .returned (.bool (t k)) ∧ w = w') (hcf : ∀ (args : Array Value) (w : World), (callFunc f args).run Tryz.prog w = .ok (.enter f args) w)
    (P : Int) (A : Option Addr) (n c : Nat) (X : Option Addr) (m cx : Nat) (xs : List Int) (w : World) (hp : 2 ≤ P) (hp2 : P ≤ 13) (hm : m ≤ 64) (hx : Rd w X m (ints xs)) (hxs : NumsL P xs) :
    Calls Tryz.prog 116 #[.agg #[.int .i64 P, .slice A n c], .slice X m cx, .func (.func f) #[] #[]] w fun e w' => ∃ A' c', e = .returned (.slice A' m c') ∧ MkI w w' A' m c' (sgnL P t xs) := by
  have hxl : xs.length = m := by have := hx.1; rwa [ints_length] at this
  have hB0 : Below w.heap.size w (w.alloc (.cells #[.int .i64 P, .slice A n c] 28)) := (Below.refl _ w).alloc (Nat.le_refl _) _
  have k0 : Blk (w.alloc (.cells #[.int .i64 P, .slice A n c] 28)) w.heap.size 28 #[.int .i64 P, .slice A n c] := Blk.new _ _ _
  have HX := Lib.hid hxl; clear hxl
  go_enter Tryz.func116, Tryz.ntmps116
  go_wp2_with fail
  refine (clone_any _ _ _ _ _ (by omega) (hx.below hB0)).mono ?_
  rintro e w1 ⟨A', c', rfl, hM1⟩
  have k1 := k0.below hM1.b k0.lt
  have hM := hM1.after hB0
  have hl0 : MkI w w1 A' m c' (mixL (fun i => if t (pc i) then (-(xs.getD i 0)) % P else xs.getD i 0) xs 0) := by rw [mixL_zero]; exact hM
  clear k0 hM1 hM hB0
  go_wp2_with fail
  go_loopw [8, 9, 14] (fun _ _ i wr => ∃ k : Nat, k ≤ m ∧ i = .int .i64 k ∧ MkI w wr A' m c' (mixL (fun i => if t (pc i) then (-(xs.getD i 0)) % P else xs.getD i 0) xs k) ∧ Blk wr w.heap.size 28 #[.int .i64 P, .slice A n c]) (fun _ _ i _ => m - (intOf i).toNat)
  case atStart => exact ⟨0, by omega, rfl, hl0, k1⟩
  case round =>
    obtain ⟨k, hk, rfl, hM, hk2⟩ := hrel
    clear hl0 k1
    by_cases hlt : k < m
    · obtain ⟨gx, ox, rfl, hxk, hcx⟩ := (hx.below hM.b).int hlt
      obtain ⟨x1, x2⟩ := hxs _ (List.getElem_mem hxk)
      have hpk := pc_le 6 k (by omega)
      rcases hM.2.form with ⟨_, h0⟩ | ⟨g, rfl, hg, hgl⟩
      · omega
      have HNE : Hid (g ≠ w.heap.size) := Lib.hid (fun e => by
        have hne := hM.2.ne_blk hk2 (by decide)
        simp [Value.ownBlock, e] at hne)
      cases ht : t (pc k)
      · have HM := Lib.hid (mixL_skip (fun i => if t (pc i) then (-(xs.getD i 0)) % P else xs.getD i 0) xs k (by simp [ht]) ▸ hM)
        have HT := Lib.hid ht
        clear hM ht
        go_wp2_with (go_at_call 140; refine (gradeOf_any k _ (by omega)).mono ?_; rintro e w' ⟨rfl, rfl⟩)
        refine (hf (pc k) _ hpk).mono ?_
        rintro e w' ⟨rfl, rfl⟩
        rw [HT.out]
        go_wp2
        go_roundw
        case rel => exact ⟨k + 1, by omega, by go_num, HM.out, hk2⟩
        case measure => simp [intOf]; omega
      · have hset := (hM.set k (.int .i64 ((-xs[k]) % P))).1
        have hfk : (if t (pc k) = true then (-(xs.getD k 0)) % P else xs.getD k 0) = (-xs[k]) % P := by rw [if_pos ht, getD_of_lt 0 hxk]
        rw [ints_set] at hset
        have HS : Hid (MkI w (wr.setCell ⟨g, k, none⟩ (.int .i64 ((-xs[k]) % P))) (some ⟨g, 0, none⟩) m c' (mixL (fun i => if t (pc i) then (-(xs.getD i 0)) % P else xs.getD i 0) xs (k + 1))) := Lib.hid (by rw [mixL_succ _ _ _ (by rw [HX.out]; exact hlt), hfk]; exact hset)
        have hAt : Hid (∀ w', MkI w w' (some ⟨g, 0, none⟩) m c' (mixL (fun i => if t (pc i) then (-(xs.getD i 0)) % P else xs.getD i 0) xs k) → w'.cell? ⟨g, k, none⟩ = some (.int .i64 ((mixL (fun i => if t (pc i) then (-(xs.getD i 0)) % P else xs.getD i 0) xs k).getD k 0)) ∧ w'.frozen? ⟨g, k, none⟩ = false) :=
          Lib.hid (fun w' h => mkI_at h hlt)
        have HT := Lib.hid ht
        have HM := Lib.hid hM
        clear hset hfk ht hM
        go_wp2_with (go_at_call 140; refine (gradeOf_any k _ (by omega)).mono ?_; rintro e w' ⟨rfl, rfl⟩)
        refine (hf (pc k) _ hpk).mono ?_
        rintro e w' ⟨rfl, rfl⟩
        rw [HT.out]
        obtain ⟨q0, q1⟩ := hk2.two
        go_wp2_with fail
        refine (field_any _ _ _ _ _).mono ?_
        rintro e w2 ⟨rfl, hb2⟩
        have hM2 := HM.out.below hb2
        have hk3 := hk2.below hb2 hk2.lt
        obtain ⟨hoc, hof⟩ := hAt.out _ hM2
        obtain ⟨v0, hv0⟩ : ∃ v, v = (mixL (fun i => if t (pc i) then (-(xs.getD i 0)) % P else xs.getD i 0) xs k).getD k 0 := ⟨_, rfl⟩
        rw [← hv0] at hoc
        have hset := (hM2.set k (.int .i64 ((-xs[k]) % P))).1
        have hfk : (if t (pc k) = true then (-(xs.getD k 0)) % P else xs.getD k 0) = (-xs[k]) % P := by rw [if_pos HT.out, getD_of_lt 0 hxk]
        rw [ints_set] at hset
        have HS2 : Hid (MkI w (w2.setCell ⟨g, k, none⟩ (.int .i64 ((-xs[k]) % P))) (some ⟨g, 0, none⟩) m c' (mixL (fun i => if t (pc i) then (-(xs.getD i 0)) % P else xs.getD i 0) xs (k + 1))) := Lib.hid (by rw [mixL_succ _ _ _ (by rw [HX.out]; exact hlt), hfk]; exact hset)
        have HKN := Lib.hid (hk3.far (p := ⟨g, k, none⟩) HNE.out.symm (.int .i64 ((-xs[k]) % P)))
        clear hv0 HS HM hM2 hk3 hk2 q0 q1 hset hfk
        go_wp2_with (go_at_call 94; refine (num_any _ (-xs[k]) _ (by omega) hp2 (by omega) (by omega)).mono ?_; rintro e w' ⟨rfl, rfl⟩)
        go_roundw
        case rel => exact ⟨k + 1, by omega, by go_num, HS2.out, HKN.out⟩
        case measure => simp [intOf]; omega
    · obtain rfl : k = m := by omega
      have hM2 := hM
      rw [← HX.out, mixL_all, HX.out] at hM2
      go_wp2
      go_ret
      exact ⟨_, _, rfl, by unfold sgnL; rw [HX.out]; exact hM2⟩
def revT (k : Nat) : Bool := k * (k - 1) / 2 % 2 == 1
theorem rev_bool (k : Nat) (hk : k ≤ 1000) : ((k : Int) * ((k : Int) - 1) / 2 % 2 == 1) = revT k := by
  unfold revT
  rw [Bool.eq_iff_iff]
  simp only [beq_iff_eq]
  rcases Nat.eq_zero_or_pos k with h | h
  · subst h; simp
  · have e : (k : Int) * ((k : Int) - 1) = ((k * (k - 1) : Nat) : Int) := by rw [Int.natCast_mul]; congr 1; omega
    rw [e]; omega
set_option maxHeartbeats 400000 in
set_option maxRecDepth 8000 in
theorem reverse1_tells (k : Nat) (w : World) (hk : k ≤ 6) : Calls Tryz.prog 117 #[.int .i64 k] w fun e w' => e = .returned (.bool (revT k)) ∧ w = w' := by
  have hm : 0 ≤ (k : Int) * ((k : Int) - 1) ∧ (k : Int) * ((k : Int) - 1) ≤ 1000000 := by
    rcases Nat.eq_zero_or_pos k with h | h
    · subst h; simp
    · have := mul_small (show (0 : Int) ≤ k by omega) (show (k : Int) ≤ 1000 by omega) (show (0 : Int) ≤ (k : Int) - 1 by omega) (show (k : Int) - 1 ≤ 1000 by omega)
      omega
  obtain ⟨m1, m2⟩ := hm
  go_enter Tryz.func117, Tryz.ntmps117
  go_wp2
  go_ret
  exact ⟨ret_bool (rev_bool k (by omega)), rfl⟩
def revL (p : Int) (xs : List Int) : List Int := sgnL p revT xs
set_option maxRecDepth 8000 in
set_option maxHeartbeats 400000 in
set_option maxRecDepth 8000 in
theorem reverse_any (P : Int) (A : Option Addr) (n c : Nat) (X : Option Addr) (m cx : Nat) (xs : List Int) (w : World) (hp : 2 ≤ P) (hp2 : P ≤ 13) (hm : m ≤ 64) (hx : Rd w X m (ints xs)) (hxs : NumsL P xs) :
    Calls Tryz.prog 82 #[.agg #[.int .i64 P, .slice A n c], .slice X m cx] w fun e w' => ∃ A' c', e = .returned (.slice A' m c') ∧ MkI w w' A' m c' (revL P xs) := by
  have hB0 : Below w.heap.size w (w.alloc (.cells #[.int .i64 P, .slice A n c] 28)) := (Below.refl _ w).alloc (Nat.le_refl _) _
  have hcall := signed_any 117 revT reverse1_tells (fun _ _ => rfl) P A n c X m cx xs _ hp hp2 hm (hx.below hB0) hxs
  go_enter Tryz.func82, Tryz.ntmps82
  go_wp2_with (go_at_call 116; refine hcall.mono ?_; rintro e w1 ⟨A', c', rfl, hM⟩)
  go_ret
  exact ⟨_, _, rfl, hM.after hB0⟩
end Go.Proofs.YticofgmmjecleaaGreatDoor
