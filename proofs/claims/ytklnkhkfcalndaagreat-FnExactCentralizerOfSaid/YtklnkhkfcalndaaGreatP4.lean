/-
  LawCentralizerOf: part 4 of the texts that the proof needs. No condition.
-/
import Derived.Test.YtklnkhkfcalndaaGreatP3
namespace Go.Proofs.YtklnkhkfcalndaaGreat
open Go.RowKit
theorem mod_mul_add (v a f p : Int) : (v + a % p * f) % p = (v + a * f) % p := by
  rw [Int.add_emod, mod_mul, ← Int.add_emod]
set_option maxRecDepth 2000 in
set_option maxHeartbeats 3200000 in
theorem l04Times_any (P : Int) (A : Option Addr) (n c : Nat) (sq : List Int) (X : Option Addr) (cx : Nat) (xs : List Int) (Y : Option Addr) (cy : Nat) (ys : List Int) (w : World) (hp : 2 ≤ P) (hp2 : P ≤ 13) (hn : n ≤ 6)
    (ha : Rd w A n (ints sq)) (hs : NumsL P sq) (hx : Rd w X (pw n) (ints xs)) (hxs : NumsL P xs) (hy : Rd w Y (pw n) (ints ys)) (hys : NumsL P ys) :
    Calls Tryz.prog 65 #[.agg #[.int .i64 P, .slice A n c], .slice X (pw n) cx, .slice Y (pw n) cy] w fun e w' => ∃ A' c', e = .returned (.slice A' (pw n) c') ∧ MkI w w' A' (pw n) c' (prodL P sq (fun _ _ => true) xs ys) := by
  have hxl : xs.length = pw n := by have := hx.1; rwa [ints_length] at this
  have hyl : ys.length = pw n := by have := hy.1; rwa [ints_length] at this
  have Hx := Lib.hid hxl; clear hxl
  have Hy := Lib.hid hyl; clear hyl
  have hpw : pw n ≤ 64 := pw_le hn
  have hmk := make_i (P := Tryz.prog) 22 2 Tryz.underlying22 info_i (pw n) (by omega)
  have hB0 : Below w.heap.size w (w.alloc (.cells #[.int .i64 P, .slice A n c] 29)) := (Below.refl _ w).alloc (Nat.le_refl _) _
  have hM := Mk.made (E := 2) (n := pw n) (z := .int .i64 0) hB0 (by simp only [maxLen]; omega)
  rw [ints_replicate] at hM
  have hk0 : Blk ((w.alloc (.cells #[.int .i64 P, .slice A n c] 29)).alloc (.cells (madeCells #[.int .i64 0] (pw n)) 2)) w.heap.size 29 #[.int .i64 P, .slice A n c] := (Blk.new w _ _).alloc _
  go_enter Tryz.func65, Tryz.ntmps65
  go_wp2
  clear hmk
  obtain ⟨w1, hw1⟩ : ∃ W, W = (w.alloc (.cells #[.int .i64 P, .slice A n c] 29)).alloc (.cells (madeCells #[.int .i64 0] (pw n)) 2) := ⟨_, rfl⟩
  rw [← hw1] at hM hk0 ⊢
  rw [World.size_alloc] at hM
  clear hB0 hw1
  obtain ⟨g, hg⟩ : ∃ g, g = w.heap.size + 1 := ⟨_, rfl⟩
  rw [← hg] at hM ⊢
  have hg1 : w.heap.size + 1 ≤ g := by omega
  clear hg
  go_loopw [8, 9] (fun i _ wr => ∃ k : Nat, k ≤ pw n ∧ i = .int .i64 k ∧ MkI w wr (some ⟨g, 0, none⟩) (pw n) (pw n) (addRows P sq (fun _ _ => true) xs ys (List.replicate (pw n) 0) k) ∧ Blk wr w.heap.size 29 #[.int .i64 P, .slice A n c]) (fun i _ _ => pw n - (intOf i).toNat)
  case atStart => exact ⟨0, by omega, rfl, by simpa [addRows] using hM, hk0⟩
  case round =>
    obtain ⟨k, hk, rfl, hM2, hk2⟩ := hrel
    clear hM hk0
    by_cases hlt : k < pw n
    · obtain ⟨gx, ox, hX, hxk, hcw⟩ := hx.int hlt
      subst hX
      obtain ⟨x1, x2⟩ := hxs _ (List.getElem_mem hxk)
      have hxn : Hid (xs.getD k 0 = xs[k]) := Lib.hid (by rw [List.getD_eq_getElem?_getD, List.getElem?_eq_getElem hxk]; rfl)
      have hgx := World.block_lt_of_cell? _ _ hcw
      have HGX : Hid (g ≠ gx) := Lib.hid (by simp at hgx; omega)
      have HCW := Lib.hid hcw
      clear hcw hgx
      have hR0 : MkI w wr (some ⟨g, 0, none⟩) (pw n) (pw n) (addRow P sq (fun _ _ => true) xs ys k (addRows P sq (fun _ _ => true) xs ys (List.replicate (pw n) 0) k) 0) := by simpa [addRow] using hM2
      have hN0 : NumsL P (addRows P sq (fun _ _ => true) xs ys (List.replicate (pw n) 0) k) := addRows_nums sq _ xs ys k (by omega) (NumsL.replicate (by omega) _)
      obtain ⟨L0, hL0⟩ : ∃ L, L = addRows P sq (fun _ _ => true) xs ys (List.replicate (pw n) 0) k := ⟨_, rfl⟩
      rw [← hL0] at hR0 hN0
      have HL0 := Lib.hid hL0
      clear hM2 hL0
      go_wp2
      go_loopw [9] (fun i wr => ∃ j : Nat, j ≤ pw n ∧ i = .int .i64 j ∧ MkI w wr (some ⟨g, 0, none⟩) (pw n) (pw n) (addRow P sq (fun _ _ => true) xs ys k L0 j) ∧ Blk wr w.heap.size 29 #[.int .i64 P, .slice A n c]) (fun i _ => pw n - (intOf i).toNat)
      case atStart => exact ⟨0, by omega, rfl, hR0, hk2⟩
      case round =>
        clear hR0 hk2
        obtain ⟨j, hj, rfl, hM3, hk3⟩ := hrel
        have hcx : wr.cell? ⟨gx, ox + k, none⟩ = some (.int .i64 xs[k]) := (hM3.b.cell (World.block_lt_of_cell? _ _ HCW.out)).trans HCW.out
        by_cases hlj : j < pw n
        · obtain ⟨gy, oy, hY, hyj, hcyw⟩ := hy.int hlj
          subst hY
          have hgy := World.block_lt_of_cell? _ _ hcyw
          have HGY : Hid (g ≠ gy) := Lib.hid (by simp at hgy; omega)
          have hcy : wr.cell? ⟨gy, oy + j, none⟩ = some (.int .i64 ys[j]) := (hM3.b.cell (World.block_lt_of_cell? _ _ hcyw)).trans hcyw
          clear hcyw hgy
          obtain ⟨y1, y2⟩ := hys _ (List.getElem_mem hyj)
          have hyn : Hid (ys.getD j 0 = ys[j]) := Lib.hid (by rw [List.getD_eq_getElem?_getD, List.getElem?_eq_getElem hyj]; rfl)
          cases h0 : (xs[k] != 0)
          · have hz : xs.getD k 0 = 0 := by rw [hxn.out]; simpa using h0
            have HM := Lib.hid hM3
            clear hM3
            go_wp2
            go_roundw
            case rel => exact ⟨k + 1, by omega, by go_num, by rw [addRows_succ, addRow_zero _ _ _ _ _ _ _ _ hz, ← HL0.out]; have := HM.out; rwa [addRow_zero _ _ _ _ _ _ _ _ hz] at this, hk3⟩
            case measure => simp [intOf]; omega
          · cases h1 : (ys[j] != 0)
            · have hz : Hid (ys.getD j 0 = 0) := Lib.hid (by rw [hyn.out]; simpa using h1)
              go_wp2
              go_roundw
              case rel => exact ⟨j + 1, by omega, by go_num, by rw [addRow_succ]; unfold addPair; rw [if_neg (fun hh => hh.2.1 hz.out)]; exact hM3, hk3⟩
              case measure => simp [intOf]; omega
            · have hidx : k ^^^ j < pw n := xor_lt hlt hlj
              have hxo := xor_all k (by omega) j (by omega)
              have hvb := (addRow_nums sq (fun _ _ => true) xs ys k j (by omega) hN0).getD (by omega) (k ^^^ j)
              obtain ⟨hoc, hof⟩ := mkI_at hM3.drew hidx
              obtain ⟨v0, hv0⟩ : ∃ v, v = (addRow P sq (fun _ _ => true) xs ys k L0 j).getD (k ^^^ j) 0 := ⟨_, rfl⟩
              rw [← hv0] at hvb hoc
              obtain ⟨v1, v2⟩ := hvb
              have HV0 := Lib.hid hv0
              have hAt : Hid (∀ w', MkI w w' (some ⟨g, 0, none⟩) (pw n) (pw n) (addRow P sq (fun _ _ => true) xs ys k L0 j) → w'.cell? ⟨g, k ^^^ j, none⟩ = some (.int .i64 v0) ∧ w'.frozen? ⟨g, k ^^^ j, none⟩ = false) :=
                Lib.hid (fun w' h => by rw [HV0.out]; exact mkI_at h hidx)
              clear hv0
              obtain ⟨f1, f2⟩ := fac_bound P sq k j hp
              obtain ⟨m1, m2⟩ := mul_small x1 (show xs[k] ≤ 13 by omega) y1 (show ys[j] ≤ 13 by omega)
              obtain ⟨r1, r2⟩ := emod_small (xs[k] * ys[j]) P (by omega)
              obtain ⟨m3, m4⟩ := mul_small r1 (show xs[k] * ys[j] % P ≤ 13 by omega) f1 (show fac P sq k j ≤ 13 by omega)
              have HNE : Hid (g ≠ w.heap.size ∧ g ≠ w.heap.size ∧ g ≠ gx ∧ g ≠ gy) := Lib.hid ⟨by omega, by omega, HGX.out, HGY.out⟩
              have hF : Hid (∀ w', MkI w w' (some ⟨g, 0, none⟩) (pw n) (pw n) (addRow P sq (fun _ _ => true) xs ys k L0 j) → Calls Tryz.prog 106 #[.agg #[.int .i64 P, .slice A n c], .int .i64 k, .int .i64 j] w' fun e w'' => e = .returned (.int .i64 (fac P sq k j)) ∧ Below w'.heap.size w' w'') :=
                Lib.hid (fun w' h => l04Blades_any P A n c sq k j w' hp hp2 hn (ha.below h.b) hs (by omega) (by omega))
              have HPair : Hid (xs.getD k 0 ≠ 0 ∧ ys.getD j 0 ≠ 0 ∧ true = true) := Lib.hid ⟨by rw [hxn.out]; simpa using h0, by rw [hyn.out]; simpa using h1, rfl⟩
              have W1 := i64_fit (xs[k] * ys[j]) (by omega) (by omega)
              have W2 := i64_fit (xs[k] * ys[j] % P * fac P sq k j) (by omega) (by omega)
              have W3 := i64_fit (v0 + xs[k] * ys[j] % P * fac P sq k j) (by omega) (by omega)
              have T1 := Int.tmod_eq_emod_of_nonneg (b := P) m1
              have T2 := Int.tmod_eq_emod_of_nonneg (a := (v0 + xs[k] * ys[j] % P * fac P sq k j)) (b := P) (by omega)
              obtain ⟨kc0, kc1⟩ := hk3.two
              have hoc2 : wr.cell? ⟨g, k ^^^ j, none⟩ = some (.int .i64 v0) := hoc
              have hof2 : wr.frozen? ⟨g, k ^^^ j, none⟩ = false := hof
              have hP0 : (P == 0) = false := by simp; omega
              have hP1 : (P == -1) = false := by simp; omega
              have hP2 : ¬ P = 0 := by omega
              have hO := hM3.drew
              have hk4 := hk3.drew
              go_wp2
              have i1 : (0 : Int) ≤ ((k ^^^ j : Nat) : Int) := by omega
              have i2 : ((k ^^^ j : Nat) : Int) < ((pw n : Nat) : Int) := by omega
              have i3 : (0 : Int) ≤ (k : Int) := by omega
              have i4 : (k : Int) < ((pw n : Nat) : Int) := by omega
              have i5 : (0 : Int) ≤ (j : Int) := by omega
              have i6 : (j : Int) < ((pw n : Nat) : Int) := by omega
              refine wp_obs 32 [[], [], [], [1, 2], [], [], [], [5, 6], [4, 5, 6, 7], [4, 5, 6, 7, 8], [], [], [10, 11], [10, 11, 12], [], [], [14, 15], [14, 15, 16], [10, 11, 12, 13, 14, 15, 16, 17], [], [19], [10, 11, 12, 13, 14, 15, 16, 17, 18, 19, 20], [], [], [], [22, 23, 24], [10, 11, 12, 13, 14, 15, 16, 17, 18, 19, 20, 21, 22, 23, 24, 25], [4, 5, 6, 7, 8, 9, 10, 11, 12, 13, 14, 15, 16, 17, 18, 19, 20, 21, 22, 23, 24, 25, 26], [], [28], [4, 5, 6, 7, 8, 9, 10, 11, 12, 13, 14, 15, 16, 17, 18, 19, 20, 21, 22, 23, 24, 25, 26, 27, 28, 29], [0, 1, 2, 3], [0, 1, 2, 3, 4, 5, 6, 7, 8, 9, 10, 11, 12, 13, 14, 15, 16, 17, 18, 19, 20, 21, 22, 23, 24, 25, 26, 27, 28, 29, 30, 31]] [VIs (.slice (some ⟨g, 0, none⟩) (pw n) (pw n)), VIs (.int .i64 (k)), VIs (.int .i64 (j)), VIs (.int .i64 ((k ^^^ j : Nat))), VIs (.slice (some ⟨g, 0, none⟩) (pw n) (pw n)), VIs (.int .i64 (k)), VIs (.int .i64 (j)), VIs (.int .i64 ((k ^^^ j : Nat))), VIs (.pointer (some ⟨g, k ^^^ j, none⟩)), VIs (.int .i64 (v0)), VIs (.slice (some ⟨gx, ox, none⟩) (pw n) cx), VIs (.int .i64 (k)), VIs (.pointer (some ⟨gx, ox + k, none⟩)), VIs (.int .i64 (xs[k])), VIs (.slice (some ⟨gy, oy, none⟩) (pw n) cy), VIs (.int .i64 (j)), VIs (.pointer (some ⟨gy, oy + j, none⟩)), VIs (.int .i64 (ys[j])), VIs (.int .i64 (xs[k] * ys[j])), VIs (.pointer (some ⟨w.heap.size, 0, none⟩)), VIs (.int .i64 (P)), VIs (.int .i64 (xs[k] * ys[j] % P)), VIs (.agg #[.int .i64 P, .slice A n c]), VIs (.int .i64 (k)), VIs (.int .i64 (j)), VIs (.int .i64 (fac P sq k j)), VIs (.int .i64 (xs[k] * ys[j] % P * fac P sq k j)), VIs (.int .i64 (v0 + xs[k] * ys[j] % P * fac P sq k j)), VIs (.pointer (some ⟨w.heap.size, 0, none⟩)), VIs (.int .i64 (P)), VIs (.int .i64 ((v0 + xs[k] * ys[j] % P * fac P sq k j) % P)), VIs (.pointer (some ⟨g, k ^^^ j, none⟩))] (fun w' => Blk w' w.heap.size 29 #[.int .i64 P, .slice A n c] ∧ MkI w w' (some ⟨g, 0, none⟩) (pw n) (pw n) (addRow P sq (fun _ _ => true) xs ys k L0 j) ∧ w'.cell? ⟨gx, ox + k, none⟩ = some (.int .i64 xs[k]) ∧ w'.cell? ⟨gy, oy + j, none⟩ = some (.int .i64 ys[j])) (by kernel_rfl) (by kernel_rfl) (fun _ _ h hb => ⟨h.1.below hb h.1.lt, h.2.1.below hb, (hb.cell (World.block_lt_of_cell? _ _ h.2.2.1)).trans h.2.2.1, (hb.cell (World.block_lt_of_cell? _ _ h.2.2.2)).trans h.2.2.2⟩) (⟨hk4, hO, hcx, hcy⟩) (fun x => ?_)
              refine obs_step (Eq.trans (by simp only [List.getElem?_toArray, List.getElem?_cons_zero]; exact rfl) rfl) rfl (fun w' hS hV K hK => ?_) ?_
              · obtain ⟨q0, q1⟩ := hS.1.two; obtain ⟨hoc, hof⟩ := hAt.out _ hS.2.1; have q2 := hS.2.2.1; have q3 := hS.2.2.2
                go_simp
                exact hK.out _ _ _ rfl rfl rfl (Below.refl _ _)
              simp only [List.setIfInBounds_toArray, List.set_cons_zero, List.set_cons_succ]
              refine obs_step (Eq.trans (by simp only [List.getElem?_toArray, List.getElem?_cons_succ, List.getElem?_cons_zero]; exact rfl) rfl) rfl (fun w' hS hV K hK => ?_) ?_
              · obtain ⟨q0, q1⟩ := hS.1.two; obtain ⟨hoc, hof⟩ := hAt.out _ hS.2.1; have q2 := hS.2.2.1; have q3 := hS.2.2.2
                go_simp
                exact hK.out _ _ _ rfl rfl rfl (Below.refl _ _)
              simp only [List.setIfInBounds_toArray, List.set_cons_zero, List.set_cons_succ]
              refine obs_step (Eq.trans (by simp only [List.getElem?_toArray, List.getElem?_cons_succ, List.getElem?_cons_zero]; exact rfl) rfl) rfl (fun w' hS hV K hK => ?_) ?_
              · obtain ⟨q0, q1⟩ := hS.1.two; obtain ⟨hoc, hof⟩ := hAt.out _ hS.2.1; have q2 := hS.2.2.1; have q3 := hS.2.2.2
                go_simp
                exact hK.out _ _ _ rfl rfl rfl (Below.refl _ _)
              simp only [List.setIfInBounds_toArray, List.set_cons_zero, List.set_cons_succ]
              refine obs_step (Eq.trans (by simp only [List.getElem?_toArray, List.getElem?_cons_succ, List.getElem?_cons_zero]; exact rfl) rfl) rfl (fun w' hS hV K hK => ?_) ?_
              · simp only [List.mem_cons, List.not_mem_nil, or_false, forall_eq_or_imp, forall_eq, List.getD_cons_succ, List.getD_cons_zero, VIs, VAny] at hV
                obtain ⟨e1, e2⟩ := hV
                obtain ⟨q0, q1⟩ := hS.1.two; obtain ⟨hoc, hof⟩ := hAt.out _ hS.2.1; have q2 := hS.2.2.1; have q3 := hS.2.2.2
                go_simp
                exact hK.out _ _ _ rfl rfl rfl (Below.refl _ _)
              simp only [List.setIfInBounds_toArray, List.set_cons_zero, List.set_cons_succ]
              refine obs_step (Eq.trans (by simp only [List.getElem?_toArray, List.getElem?_cons_succ, List.getElem?_cons_zero]; exact rfl) rfl) rfl (fun w' hS hV K hK => ?_) ?_
              · obtain ⟨q0, q1⟩ := hS.1.two; obtain ⟨hoc, hof⟩ := hAt.out _ hS.2.1; have q2 := hS.2.2.1; have q3 := hS.2.2.2
                go_simp
                exact hK.out _ _ _ rfl rfl rfl (Below.refl _ _)
              simp only [List.setIfInBounds_toArray, List.set_cons_zero, List.set_cons_succ]
              refine obs_step (Eq.trans (by simp only [List.getElem?_toArray, List.getElem?_cons_succ, List.getElem?_cons_zero]; exact rfl) rfl) rfl (fun w' hS hV K hK => ?_) ?_
              · obtain ⟨q0, q1⟩ := hS.1.two; obtain ⟨hoc, hof⟩ := hAt.out _ hS.2.1; have q2 := hS.2.2.1; have q3 := hS.2.2.2
                go_simp
                exact hK.out _ _ _ rfl rfl rfl (Below.refl _ _)
              simp only [List.setIfInBounds_toArray, List.set_cons_zero, List.set_cons_succ]
              refine obs_step (Eq.trans (by simp only [List.getElem?_toArray, List.getElem?_cons_succ, List.getElem?_cons_zero]; exact rfl) rfl) rfl (fun w' hS hV K hK => ?_) ?_
              · obtain ⟨q0, q1⟩ := hS.1.two; obtain ⟨hoc, hof⟩ := hAt.out _ hS.2.1; have q2 := hS.2.2.1; have q3 := hS.2.2.2
                go_simp
                exact hK.out _ _ _ rfl rfl rfl (Below.refl _ _)
              simp only [List.setIfInBounds_toArray, List.set_cons_zero, List.set_cons_succ]
              refine obs_step (Eq.trans (by simp only [List.getElem?_toArray, List.getElem?_cons_succ, List.getElem?_cons_zero]; exact rfl) rfl) rfl (fun w' hS hV K hK => ?_) ?_
              · simp only [List.mem_cons, List.not_mem_nil, or_false, forall_eq_or_imp, forall_eq, List.getD_cons_succ, List.getD_cons_zero, VIs, VAny] at hV
                obtain ⟨e5, e6⟩ := hV
                obtain ⟨q0, q1⟩ := hS.1.two; obtain ⟨hoc, hof⟩ := hAt.out _ hS.2.1; have q2 := hS.2.2.1; have q3 := hS.2.2.2
                go_simp
                exact hK.out _ _ _ rfl rfl rfl (Below.refl _ _)
              simp only [List.setIfInBounds_toArray, List.set_cons_zero, List.set_cons_succ]
              refine obs_step (Eq.trans (by simp only [List.getElem?_toArray, List.getElem?_cons_succ, List.getElem?_cons_zero]; exact rfl) rfl) rfl (fun w' hS hV K hK => ?_) ?_
              · simp only [List.mem_cons, List.not_mem_nil, or_false, forall_eq_or_imp, forall_eq, List.getD_cons_succ, List.getD_cons_zero, VIs, VAny] at hV
                obtain ⟨e4, e5, e6, e7⟩ := hV
                obtain ⟨q0, q1⟩ := hS.1.two; obtain ⟨hoc, hof⟩ := hAt.out _ hS.2.1; have q2 := hS.2.2.1; have q3 := hS.2.2.2
                go_simp
                exact hK.out _ _ _ rfl rfl rfl (Below.refl _ _)
              simp only [List.setIfInBounds_toArray, List.set_cons_zero, List.set_cons_succ]
              refine obs_step (Eq.trans (by simp only [List.getElem?_toArray, List.getElem?_cons_succ, List.getElem?_cons_zero]; exact rfl) rfl) rfl (fun w' hS hV K hK => ?_) ?_
              · simp only [List.mem_cons, List.not_mem_nil, or_false, forall_eq_or_imp, forall_eq, List.getD_cons_succ, List.getD_cons_zero, VIs, VAny] at hV
                obtain ⟨e4, e5, e6, e7, e8⟩ := hV
                obtain ⟨q0, q1⟩ := hS.1.two; obtain ⟨hoc, hof⟩ := hAt.out _ hS.2.1; have q2 := hS.2.2.1; have q3 := hS.2.2.2
                go_simp
                exact hK.out _ _ _ rfl rfl rfl (Below.refl _ _)
              simp only [List.setIfInBounds_toArray, List.set_cons_zero, List.set_cons_succ]
              refine obs_step (Eq.trans (by simp only [List.getElem?_toArray, List.getElem?_cons_succ, List.getElem?_cons_zero]; exact rfl) rfl) rfl (fun w' hS hV K hK => ?_) ?_
              · obtain ⟨q0, q1⟩ := hS.1.two; obtain ⟨hoc, hof⟩ := hAt.out _ hS.2.1; have q2 := hS.2.2.1; have q3 := hS.2.2.2
                go_simp
                exact hK.out _ _ _ rfl rfl rfl (Below.refl _ _)
              simp only [List.setIfInBounds_toArray, List.set_cons_zero, List.set_cons_succ]
              refine obs_step (Eq.trans (by simp only [List.getElem?_toArray, List.getElem?_cons_succ, List.getElem?_cons_zero]; exact rfl) rfl) rfl (fun w' hS hV K hK => ?_) ?_
              · obtain ⟨q0, q1⟩ := hS.1.two; obtain ⟨hoc, hof⟩ := hAt.out _ hS.2.1; have q2 := hS.2.2.1; have q3 := hS.2.2.2
                go_simp
                exact hK.out _ _ _ rfl rfl rfl (Below.refl _ _)
              simp only [List.setIfInBounds_toArray, List.set_cons_zero, List.set_cons_succ]
              refine obs_step (Eq.trans (by simp only [List.getElem?_toArray, List.getElem?_cons_succ, List.getElem?_cons_zero]; exact rfl) rfl) rfl (fun w' hS hV K hK => ?_) ?_
              · simp only [List.mem_cons, List.not_mem_nil, or_false, forall_eq_or_imp, forall_eq, List.getD_cons_succ, List.getD_cons_zero, VIs, VAny] at hV
                obtain ⟨e10, e11⟩ := hV
                obtain ⟨q0, q1⟩ := hS.1.two; obtain ⟨hoc, hof⟩ := hAt.out _ hS.2.1; have q2 := hS.2.2.1; have q3 := hS.2.2.2
                go_simp
                exact hK.out _ _ _ rfl rfl rfl (Below.refl _ _)
              simp only [List.setIfInBounds_toArray, List.set_cons_zero, List.set_cons_succ]
              refine obs_step (Eq.trans (by simp only [List.getElem?_toArray, List.getElem?_cons_succ, List.getElem?_cons_zero]; exact rfl) rfl) rfl (fun w' hS hV K hK => ?_) ?_
              · simp only [List.mem_cons, List.not_mem_nil, or_false, forall_eq_or_imp, forall_eq, List.getD_cons_succ, List.getD_cons_zero, VIs, VAny] at hV
                obtain ⟨e10, e11, e12⟩ := hV
                obtain ⟨q0, q1⟩ := hS.1.two; obtain ⟨hoc, hof⟩ := hAt.out _ hS.2.1; have q2 := hS.2.2.1; have q3 := hS.2.2.2
                go_simp
                exact hK.out _ _ _ rfl rfl rfl (Below.refl _ _)
              simp only [List.setIfInBounds_toArray, List.set_cons_zero, List.set_cons_succ]
              refine obs_step (Eq.trans (by simp only [List.getElem?_toArray, List.getElem?_cons_succ, List.getElem?_cons_zero]; exact rfl) rfl) rfl (fun w' hS hV K hK => ?_) ?_
              · obtain ⟨q0, q1⟩ := hS.1.two; obtain ⟨hoc, hof⟩ := hAt.out _ hS.2.1; have q2 := hS.2.2.1; have q3 := hS.2.2.2
                go_simp
                exact hK.out _ _ _ rfl rfl rfl (Below.refl _ _)
              simp only [List.setIfInBounds_toArray, List.set_cons_zero, List.set_cons_succ]
              refine obs_step (Eq.trans (by simp only [List.getElem?_toArray, List.getElem?_cons_succ, List.getElem?_cons_zero]; exact rfl) rfl) rfl (fun w' hS hV K hK => ?_) ?_
              · obtain ⟨q0, q1⟩ := hS.1.two; obtain ⟨hoc, hof⟩ := hAt.out _ hS.2.1; have q2 := hS.2.2.1; have q3 := hS.2.2.2
                go_simp
                exact hK.out _ _ _ rfl rfl rfl (Below.refl _ _)
              simp only [List.setIfInBounds_toArray, List.set_cons_zero, List.set_cons_succ]
              refine obs_step (Eq.trans (by simp only [List.getElem?_toArray, List.getElem?_cons_succ, List.getElem?_cons_zero]; exact rfl) rfl) rfl (fun w' hS hV K hK => ?_) ?_
              · simp only [List.mem_cons, List.not_mem_nil, or_false, forall_eq_or_imp, forall_eq, List.getD_cons_succ, List.getD_cons_zero, VIs, VAny] at hV
                obtain ⟨e14, e15⟩ := hV
                obtain ⟨q0, q1⟩ := hS.1.two; obtain ⟨hoc, hof⟩ := hAt.out _ hS.2.1; have q2 := hS.2.2.1; have q3 := hS.2.2.2
                go_simp
                exact hK.out _ _ _ rfl rfl rfl (Below.refl _ _)
              simp only [List.setIfInBounds_toArray, List.set_cons_zero, List.set_cons_succ]
              refine obs_step (Eq.trans (by simp only [List.getElem?_toArray, List.getElem?_cons_succ, List.getElem?_cons_zero]; exact rfl) rfl) rfl (fun w' hS hV K hK => ?_) ?_
              · simp only [List.mem_cons, List.not_mem_nil, or_false, forall_eq_or_imp, forall_eq, List.getD_cons_succ, List.getD_cons_zero, VIs, VAny] at hV
                obtain ⟨e14, e15, e16⟩ := hV
                obtain ⟨q0, q1⟩ := hS.1.two; obtain ⟨hoc, hof⟩ := hAt.out _ hS.2.1; have q2 := hS.2.2.1; have q3 := hS.2.2.2
                go_simp
                exact hK.out _ _ _ rfl rfl rfl (Below.refl _ _)
              simp only [List.setIfInBounds_toArray, List.set_cons_zero, List.set_cons_succ]
              refine obs_step (Eq.trans (by simp only [List.getElem?_toArray, List.getElem?_cons_succ, List.getElem?_cons_zero]; exact rfl) rfl) rfl (fun w' hS hV K hK => ?_) ?_
              · simp only [List.mem_cons, List.not_mem_nil, or_false, forall_eq_or_imp, forall_eq, List.getD_cons_succ, List.getD_cons_zero, VIs, VAny] at hV
                obtain ⟨e10, e11, e12, e13, e14, e15, e16, e17⟩ := hV
                obtain ⟨q0, q1⟩ := hS.1.two; obtain ⟨hoc, hof⟩ := hAt.out _ hS.2.1; have q2 := hS.2.2.1; have q3 := hS.2.2.2
                go_simp
                exact hK.out _ _ _ rfl rfl rfl (Below.refl _ _)
              simp only [List.setIfInBounds_toArray, List.set_cons_zero, List.set_cons_succ]
              refine obs_step (Eq.trans (by simp only [List.getElem?_toArray, List.getElem?_cons_succ, List.getElem?_cons_zero]; exact rfl) rfl) rfl (fun w' hS hV K hK => ?_) ?_
              · obtain ⟨q0, q1⟩ := hS.1.two; obtain ⟨hoc, hof⟩ := hAt.out _ hS.2.1; have q2 := hS.2.2.1; have q3 := hS.2.2.2
                go_simp
                exact hK.out _ _ _ rfl rfl rfl (Below.refl _ _)
              simp only [List.setIfInBounds_toArray, List.set_cons_zero, List.set_cons_succ]
              refine obs_step (Eq.trans (by simp only [List.getElem?_toArray, List.getElem?_cons_succ, List.getElem?_cons_zero]; exact rfl) rfl) rfl (fun w' hS hV K hK => ?_) ?_
              · simp only [List.mem_cons, List.not_mem_nil, or_false, forall_eq, List.getD_cons_succ, List.getD_cons_zero, VIs, VAny] at hV
                obtain e19 := hV
                obtain ⟨q0, q1⟩ := hS.1.two; obtain ⟨hoc, hof⟩ := hAt.out _ hS.2.1; have q2 := hS.2.2.1; have q3 := hS.2.2.2
                go_simp
                exact hK.out _ _ _ rfl rfl rfl (Below.refl _ _)
              simp only [List.setIfInBounds_toArray, List.set_cons_zero, List.set_cons_succ]
              refine obs_step (Eq.trans (by simp only [List.getElem?_toArray, List.getElem?_cons_succ, List.getElem?_cons_zero]; exact rfl) rfl) rfl (fun w' hS hV K hK => ?_) ?_
              · simp only [List.mem_cons, List.not_mem_nil, or_false, forall_eq_or_imp, forall_eq, List.getD_cons_succ, List.getD_cons_zero, VIs, VAny] at hV
                obtain ⟨e10, e11, e12, e13, e14, e15, e16, e17, e18, e19, e20⟩ := hV
                obtain ⟨q0, q1⟩ := hS.1.two; obtain ⟨hoc, hof⟩ := hAt.out _ hS.2.1; have q2 := hS.2.2.1; have q3 := hS.2.2.2
                go_simp
                exact hK.out _ _ _ rfl rfl rfl (Below.refl _ _)
              simp only [List.setIfInBounds_toArray, List.set_cons_zero, List.set_cons_succ]
              refine obs_step (Eq.trans (by simp only [List.getElem?_toArray, List.getElem?_cons_succ, List.getElem?_cons_zero]; exact rfl) rfl) rfl (fun w' hS hV K hK => ?_) ?_
              · obtain ⟨q0, q1⟩ := hS.1.two; obtain ⟨hoc, hof⟩ := hAt.out _ hS.2.1; have q2 := hS.2.2.1; have q3 := hS.2.2.2
                go_simp
                exact hK.out _ _ _ rfl rfl rfl (Below.refl _ _)
              simp only [List.setIfInBounds_toArray, List.set_cons_zero, List.set_cons_succ]
              refine obs_step (Eq.trans (by simp only [List.getElem?_toArray, List.getElem?_cons_succ, List.getElem?_cons_zero]; exact rfl) rfl) rfl (fun w' hS hV K hK => ?_) ?_
              · obtain ⟨q0, q1⟩ := hS.1.two; obtain ⟨hoc, hof⟩ := hAt.out _ hS.2.1; have q2 := hS.2.2.1; have q3 := hS.2.2.2
                go_simp
                exact hK.out _ _ _ rfl rfl rfl (Below.refl _ _)
              simp only [List.setIfInBounds_toArray, List.set_cons_zero, List.set_cons_succ]
              refine obs_step (Eq.trans (by simp only [List.getElem?_toArray, List.getElem?_cons_succ, List.getElem?_cons_zero]; exact rfl) rfl) rfl (fun w' hS hV K hK => ?_) ?_
              · obtain ⟨q0, q1⟩ := hS.1.two; obtain ⟨hoc, hof⟩ := hAt.out _ hS.2.1; have q2 := hS.2.2.1; have q3 := hS.2.2.2
                go_simp
                exact hK.out _ _ _ rfl rfl rfl (Below.refl _ _)
              simp only [List.setIfInBounds_toArray, List.set_cons_zero, List.set_cons_succ]
              refine obs_step (Eq.trans (by simp only [List.getElem?_toArray, List.getElem?_cons_succ, List.getElem?_cons_zero]; exact rfl) rfl) rfl (fun w' hS hV K hK => ?_) ?_
              · simp only [List.mem_cons, List.not_mem_nil, or_false, forall_eq_or_imp, forall_eq, List.getD_cons_succ, List.getD_cons_zero, VIs, VAny] at hV
                obtain ⟨e22, e23, e24⟩ := hV
                obtain ⟨q0, q1⟩ := hS.1.two; obtain ⟨hoc, hof⟩ := hAt.out _ hS.2.1; have q2 := hS.2.2.1; have q3 := hS.2.2.2
                go_simp
                refine (hF.out _ hS.2.1).mono ?_
                rintro e v1 ⟨rfl, hb⟩
                exact hK.out _ _ _ rfl rfl rfl hb
              simp only [List.setIfInBounds_toArray, List.set_cons_zero, List.set_cons_succ]
              refine obs_step (Eq.trans (by simp only [List.getElem?_toArray, List.getElem?_cons_succ, List.getElem?_cons_zero]; exact rfl) rfl) rfl (fun w' hS hV K hK => ?_) ?_
              · simp only [List.mem_cons, List.not_mem_nil, or_false, forall_eq_or_imp, forall_eq, List.getD_cons_succ, List.getD_cons_zero, VIs, VAny] at hV
                obtain ⟨e10, e11, e12, e13, e14, e15, e16, e17, e18, e19, e20, e21, e22, e23, e24, e25⟩ := hV
                obtain ⟨q0, q1⟩ := hS.1.two; obtain ⟨hoc, hof⟩ := hAt.out _ hS.2.1; have q2 := hS.2.2.1; have q3 := hS.2.2.2
                go_simp
                exact hK.out _ _ _ rfl rfl rfl (Below.refl _ _)
              simp only [List.setIfInBounds_toArray, List.set_cons_zero, List.set_cons_succ]
              refine obs_step (Eq.trans (by simp only [List.getElem?_toArray, List.getElem?_cons_succ, List.getElem?_cons_zero]; exact rfl) rfl) rfl (fun w' hS hV K hK => ?_) ?_
              · simp only [List.mem_cons, List.not_mem_nil, or_false, forall_eq_or_imp, forall_eq, List.getD_cons_succ, List.getD_cons_zero, VIs, VAny] at hV
                obtain ⟨e4, e5, e6, e7, e8, e9, e10, e11, e12, e13, e14, e15, e16, e17, e18, e19, e20, e21, e22, e23, e24, e25, e26⟩ := hV
                obtain ⟨q0, q1⟩ := hS.1.two; obtain ⟨hoc, hof⟩ := hAt.out _ hS.2.1; have q2 := hS.2.2.1; have q3 := hS.2.2.2
                go_simp
                exact hK.out _ _ _ rfl rfl rfl (Below.refl _ _)
              simp only [List.setIfInBounds_toArray, List.set_cons_zero, List.set_cons_succ]
              refine obs_step (Eq.trans (by simp only [List.getElem?_toArray, List.getElem?_cons_succ, List.getElem?_cons_zero]; exact rfl) rfl) rfl (fun w' hS hV K hK => ?_) ?_
              · obtain ⟨q0, q1⟩ := hS.1.two; obtain ⟨hoc, hof⟩ := hAt.out _ hS.2.1; have q2 := hS.2.2.1; have q3 := hS.2.2.2
                go_simp
                exact hK.out _ _ _ rfl rfl rfl (Below.refl _ _)
              simp only [List.setIfInBounds_toArray, List.set_cons_zero, List.set_cons_succ]
              refine obs_step (Eq.trans (by simp only [List.getElem?_toArray, List.getElem?_cons_succ, List.getElem?_cons_zero]; exact rfl) rfl) rfl (fun w' hS hV K hK => ?_) ?_
              · simp only [List.mem_cons, List.not_mem_nil, or_false, forall_eq, List.getD_cons_succ, List.getD_cons_zero, VIs, VAny] at hV
                obtain e28 := hV
                obtain ⟨q0, q1⟩ := hS.1.two; obtain ⟨hoc, hof⟩ := hAt.out _ hS.2.1; have q2 := hS.2.2.1; have q3 := hS.2.2.2
                go_simp
                exact hK.out _ _ _ rfl rfl rfl (Below.refl _ _)
              simp only [List.setIfInBounds_toArray, List.set_cons_zero, List.set_cons_succ]
              refine obs_step (Eq.trans (by simp only [List.getElem?_toArray, List.getElem?_cons_succ, List.getElem?_cons_zero]; exact rfl) rfl) rfl (fun w' hS hV K hK => ?_) ?_
              · simp only [List.mem_cons, List.not_mem_nil, or_false, forall_eq_or_imp, forall_eq, List.getD_cons_succ, List.getD_cons_zero, VIs, VAny] at hV
                obtain ⟨e4, e5, e6, e7, e8, e9, e10, e11, e12, e13, e14, e15, e16, e17, e18, e19, e20, e21, e22, e23, e24, e25, e26, e27, e28, e29⟩ := hV
                obtain ⟨q0, q1⟩ := hS.1.two; obtain ⟨hoc, hof⟩ := hAt.out _ hS.2.1; have q2 := hS.2.2.1; have q3 := hS.2.2.2
                go_simp
                exact hK.out _ _ _ rfl rfl rfl (Below.refl _ _)
              simp only [List.setIfInBounds_toArray, List.set_cons_zero, List.set_cons_succ]
              refine obs_step (Eq.trans (by simp only [List.getElem?_toArray, List.getElem?_cons_succ, List.getElem?_cons_zero]; exact rfl) rfl) rfl (fun w' hS hV K hK => ?_) ?_
              · simp only [List.mem_cons, List.not_mem_nil, or_false, forall_eq_or_imp, forall_eq, List.getD_cons_succ, List.getD_cons_zero, VIs, VAny] at hV
                obtain ⟨e0, e1, e2, e3⟩ := hV
                obtain ⟨q0, q1⟩ := hS.1.two; obtain ⟨hoc, hof⟩ := hAt.out _ hS.2.1; have q2 := hS.2.2.1; have q3 := hS.2.2.2
                go_simp
                exact hK.out _ _ _ rfl rfl rfl (Below.refl _ _)
              simp only [List.setIfInBounds_toArray, List.set_cons_zero, List.set_cons_succ]
              refine fun w' hS hV => ?_
              have hV := fun i hi => hV i (List.mem_range.1 hi)
              simp only [List.range, List.range.loop, List.mem_cons, List.not_mem_nil, or_false, forall_eq_or_imp, forall_eq, List.getD_cons_succ, List.getD_cons_zero, VIs, VAny] at hV
              obtain ⟨e0, e1, e2, e3, e4, e5, e6, e7, e8, e9, e10, e11, e12, e13, e14, e15, e16, e17, e18, e19, e20, e21, e22, e23, e24, e25, e26, e27, e28, e29, e30, e31⟩ := hV
              simp only [e0, e1, e2, e3, e4, e5, e6, e7, e8, e9, e10, e11, e12, e13, e14, e15, e16, e17, e18, e19, e20, e21, e22, e23, e24, e25, e26, e27, e28, e29, e30, e31]
              clear e0 e1 e2 e3 e4 e5 e6 e7 e8 e9 e10 e11 e12 e13 e14 e15 e16 e17 e18 e19 e20 e21 e22 e23 e24 e25 e26 e27 e28 e29 e30 e31
              obtain ⟨hk4, hO, s3, s4⟩ := hS
              obtain ⟨hoc, hof⟩ := hAt.out _ hO
              refine any_one (j := 32) (by kernel_rfl) (Eq.trans (by simp only [List.getElem?_toArray, List.getElem?_cons_succ, List.getElem?_cons_zero]; exact rfl) rfl) (fun K hK => ?_)
              go_simp
              refine hK.out _ _ (wpAny_done (by kernel_rfl) ?_ _)
              have hset := (hO.set (k ^^^ j) (.int .i64 ((v0 + xs[k] * ys[j] % P * fac P sq k j) % P))).1
              rw [ints_set] at hset
              have hkn := hk4.far (p := ⟨g, k ^^^ j, none⟩) HNE.out.1.symm (.int .i64 ((v0 + xs[k] * ys[j] % P * fac P sq k j) % P))
              clear W1 W2 W3 T1 T2 hoc hof hO hk4
              go_wp2
              go_roundw
              case rel => exact ⟨j + 1, by omega, by go_num, by rw [addRow_succ]; unfold addPair; rw [if_pos ⟨HPair.out.1, HPair.out.2.1, rfl⟩, ← HV0.out, hxn.out, hyn.out, ← mod_mul_add v0 (xs[k] * ys[j]) (fac P sq k j) P]; exact hset, hkn⟩
              case measure => simp [intOf]; omega
        · obtain rfl : j = pw n := by omega
          have HM := Lib.hid hM3
          clear hM3
          go_wp2
          go_roundw
          case rel => exact ⟨k + 1, by omega, by go_num, by rw [addRows_succ, Hy.out, ← HL0.out]; exact HM.out, hk3⟩
          case measure => simp [intOf]; omega
    · obtain rfl : k = pw n := by omega
      go_wp2
      go_ret
      exact ⟨_, _, rfl, by unfold prodL; rw [Hx.out]; exact hM2⟩
end Go.Proofs.YtklnkhkfcalndaaGreat
namespace Go.Proofs.YtklnkhkfcalndaaGreat
open Go.RowKit
set_option maxHeartbeats 400000 in
theorem l04Zero_any (P : Int) (A : Option Addr) (n c : Nat) (w : World) (hn : n ≤ 10) :
    Calls Tryz.prog 31 #[.agg #[.int .i64 P, .slice A n c]] w fun e w' => ∃ A' c', e = .returned (.slice A' (pw n) c') ∧ MkI w w' A' (pw n) c' (List.replicate (pw n) 0) := by
  have hp : pw n ≤ 1024 := pw_le hn
  have hmk := make_i (P := Tryz.prog) 22 2 Tryz.underlying22 info_i (pw n) (by omega)
  go_enter Tryz.func31, Tryz.ntmps31
  go_wp2_with (go_at_call 29; refine (l04Size_any _ _ _ _ _ (by omega)).mono ?_; rintro e w1 ⟨rfl, hb1⟩)
  go_ret
  have hb2 := (((Below.refl _ _).alloc (Nat.le_refl _) _).trans (hb1.mono (by simp)))
  exact ⟨_, _, rfl, by have := Mk.made (E := 2) (n := pw n) (z := .int .i64 0) hb2 (by simp only [maxLen]; omega); rwa [ints_replicate] at this⟩
end Go.Proofs.YtklnkhkfcalndaaGreat
namespace Go.Proofs.YtklnkhkfcalndaaGreat
open Go.RowKit
theorem codeR_zero2 {P : Int} {sq : List Int} {ms : List (List Int)} (h : codeR P sq ms = 0) : codeM P sq ms = 0 := by
  unfold codeR at h
  by_cases h1 : codeM P sq ms = 0
  · exact h1
  · rw [if_neg h1] at h; exact absurd h h1
theorem codeM_spec2 {P : Int} {sq : List Int} {ms : List (List Int)} (h : codeM P sq ms = 0) : isP P = true ∧ 2 < P ∧ P ≤ 13 ∧ 1 ≤ sq.length ∧ sq.length ≤ 6 ∧ NumsL P sq ∧ ∀ ys ∈ ms, ys.length = pw sq.length ∧ NumsL P ys := by
  obtain ⟨h1, h2⟩ := codeM_sp h
  obtain ⟨hp, hd1, hd2, hnum⟩ := isSp_dim h1
  have := isP_ge hp
  refine ⟨hp, by omega, by omega, hd1, hd2, nums_numsL hnum, fun ys hy => ?_⟩
  have hm := h2 ys hy
  unfold isMu at hm
  simp only [Bool.and_eq_true, beq_iff_eq] at hm
  exact ⟨by have := hm.1; omega, nums_numsL hm.2⟩
/-- The code of a regular space and bivectors. -/
def codeB (P : Int) (sq : List Int) (ms : List (List Int)) : Int := if codeR P sq ms = 0 then (if ms.all (fun xs => onlyL xs 2) then 0 else 5) else codeR P sq ms
theorem codeB_zero {P : Int} {sq : List Int} {ms : List (List Int)} (h : codeB P sq ms = 0) : codeR P sq ms = 0 := by
  unfold codeB at h
  by_cases h1 : codeR P sq ms = 0
  · exact h1
  · rw [if_neg h1] at h; exact absurd h h1
theorem codeB_bad {P : Int} {sq : List Int} {ms : List (List Int)} (h : codeR P sq ms = 0) {xs : List Int} (hm : xs ∈ ms) (hx : onlyL xs 2 = false) : codeB P sq ms = 5 := by
  unfold codeB
  rw [if_pos h, if_neg]
  intro hall
  have := List.all_eq_true.1 hall xs hm
  rw [hx] at this
  cases this
theorem codeB_good {P : Int} {sq : List Int} {ms : List (List Int)} (h : codeR P sq ms = 0) (hall : ms.all (fun xs => onlyL xs 2) = true) : codeB P sq ms = 0 := by
  unfold codeB
  rw [if_pos h, if_pos hall]
theorem codeB_ne {P : Int} {sq : List Int} {ms : List (List Int)} (h : ¬ codeR P sq ms = 0) : codeB P sq ms = codeR P sq ms := by
  unfold codeB
  rw [if_neg h]
theorem all_take {α : Type} {f : α → Bool} {xs : List α} {k : Nat} (hk : k < xs.length) (h : (xs.take k).all f = true) (hf : f xs[k] = true) : (xs.take (k + 1)).all f = true := by
  rw [List.take_succ_eq_append_getElem hk, List.all_append, h]
  simp [hf]
theorem onlyL_part2 {ys : List Int} (hl : ys.length ≤ 64) (k : Nat) : decide (ys = partG ys k) = onlyL ys k := by
  unfold onlyL
  rw [Bool.eq_iff_iff, decide_eq_true_eq, Bool.not_eq_true', List.any_eq_false]
  constructor
  · intro he g hg
    obtain ⟨i, hi, hne, rfl⟩ := (gradesL_mem ys hl g).1 hg
    have h1 : ys.getD i 0 = (partG ys k).getD i 0 := congrArg (fun l => l.getD i 0) he
    rw [partG_getD hi] at h1
    by_cases hp : pc i = k
    · simp [hp]
    · rw [if_neg hp] at h1; exact absurd h1 hne
  · intro h
    apply list_ext_getD 0 (partG_len _ _).symm
    intro i hi
    rw [partG_getD hi]
    by_cases hp : pc i = k
    · rw [if_pos hp]
    · rw [if_neg hp]
      refine Classical.byContradiction fun hne => ?_
      have := h _ ((gradesL_mem ys hl _).2 ⟨i, hi, hne, rfl⟩)
      exact this (bne_iff_ne.2 (by omega))
theorem same_b {b : Bool} (A B : Option Addr) (n m c d : Nat) (xs ys : List Int) (w : World) (hn : n ≤ 1099511627776) (hm : m ≤ 1099511627776) (ha : Rd w A n (ints xs)) (hb : Rd w B m (ints ys)) (h : decide (xs = ys) = b) :
    Calls Tryz.prog 62 #[.slice A n c, .slice B m d] w fun e w' => e = .returned (.bool b) ∧ ∃ j, w' = w.drewN j := h ▸ l01Same_any A B n m c d xs ys w hn hm ha hb
theorem brkL_len (P : Int) (sq : List Int) (n : Nat) (xs ys : List Int) : (brkL P sq n xs ys).length = pw n := by unfold brkL; rw [plusL_len, timesL_len]
theorem brkL_nums {P : Int} (hp : 2 ≤ P) (sq : List Int) (n : Nat) (xs ys : List Int) : NumsL P (brkL P sq n xs ys) := plusL_nums (by omega) _ _ _
theorem brkL_eq {P : Int} {sq : List Int} {n : Nat} {xs ys : List Int} (hx : xs.length = pw n) (hxs : NumsL P xs) (hy : ys.length = pw n) (hys : NumsL P ys) : plusL P (mulL P sq xs ys) (mulL P sq ys xs) (P - 1) = brkL P sq n xs ys := by
  unfold brkL
  rw [timesL_two P sq n _ _ hx hxs, timesL_two P sq n _ _ hy hys]
  exact plusL_mod P _ _ (by rw [show P - 1 = -1 + P by omega, Int.add_emod_right])
set_option maxHeartbeats 1600000 in
set_option maxRecDepth 8000 in
theorem l04Bracket_any (P : Int) (A : Option Addr) (n c : Nat) (sq : List Int) (X : Option Addr) (cx : Nat) (xs : List Int) (Y : Option Addr) (cy : Nat) (ys : List Int) (w : World) (hp : 2 ≤ P) (hp2 : P ≤ 13) (hn : n ≤ 6) (ha : Rd w A n (ints sq)) (hs : NumsL P sq) (hx : Rd w X (pw n) (ints xs)) (hxs : NumsL P xs) (hy : Rd w Y (pw n) (ints ys)) (hys : NumsL P ys) :
    Calls Tryz.prog 32 #[.agg #[.int .i64 P, .slice A n c], .slice X (pw n) cx, .slice Y (pw n) cy] w fun e w' => ∃ A' c', e = .returned (.slice A' (pw n) c') ∧ MkI w w' A' (pw n) c' (brkL P sq n xs ys) := by
  have hB0 : Below w.heap.size w (w.alloc (.cells #[.int .i64 P, .slice A n c] 29)) := (Below.refl _ _).alloc (Nat.le_refl _) _
  have k0 : Blk (w.alloc (.cells #[.int .i64 P, .slice A n c] 29)) w.heap.size 29 #[.int .i64 P, .slice A n c] := Blk.new _ _ _
  have HPW : pw n ≤ 65536 := Nat.le_trans (pw_le (show n ≤ 10 by omega)) (by decide)
  have HPW64 : pw n ≤ 64 := pw_le hn
  have W1 := i64_fit (P - 1) (by omega) (by omega)
  go_enter Tryz.func32, Tryz.ntmps32
  go_wp2
  refine wp_obs 15 [[], [0], [], [], [], [2, 3, 4], [], [], [], [6, 7, 8], [], [10], [10, 11], [0, 1, 2, 3, 4, 5, 6, 7, 8, 9, 10, 11, 12], [0, 1, 2, 3, 4, 5, 6, 7, 8, 9, 10, 11, 12, 13]] [VIs (.pointer (some ⟨w.heap.size, 0, none⟩)), VIs (.int .i64 P), VIs (.agg #[.int .i64 P, .slice A n c]), VIs (.slice X (pw n) cx), VIs (.slice Y (pw n) cy), VSl w (pw n) (mulL P sq xs ys), VIs (.agg #[.int .i64 P, .slice A n c]), VIs (.slice Y (pw n) cy), VIs (.slice X (pw n) cx), VSl w (pw n) (mulL P sq ys xs), VIs (.pointer (some ⟨w.heap.size, 0, none⟩)), VIs (.int .i64 P), VIs (.int .i64 (P - 1)), VSl w (pw n) (plusL P (mulL P sq xs ys) (mulL P sq ys xs) (P - 1)), VSl w (pw n) (plusL P (mulL P sq xs ys) (mulL P sq ys xs) (P - 1))] (fun w' => Blk w' w.heap.size 29 #[.int .i64 P, .slice A n c] ∧ Below w.heap.size w w') (by kernel_rfl) (by kernel_rfl) (fun _ _ h hb => ⟨h.1.below hb h.1.lt, h.2.trans (hb.mono h.2.size)⟩) (⟨k0.drew, hB0.drew⟩) (fun x => ?_)
  refine obs_step (Eq.trans (by simp only [List.getElem?_toArray, List.getElem?_cons_zero]; exact rfl) rfl) rfl (fun w' hS hV K hK => ?_) ?_
  · obtain ⟨q0, q1⟩ := hS.1.two
    go_simp
    exact hK.out _ _ _ rfl rfl rfl (Below.refl _ _)
  simp only [List.setIfInBounds_toArray, List.set_cons_zero, List.set_cons_succ]
  refine obs_step (Eq.trans (by simp only [List.getElem?_toArray, List.getElem?_cons_succ, List.getElem?_cons_zero]; exact rfl) rfl) rfl (fun w' hS hV K hK => ?_) ?_
  · have e0 : x 0 = (.pointer (some ⟨w.heap.size, 0, none⟩)) := hV 0 (by decide)
    obtain ⟨q0, q1⟩ := hS.1.two
    go_simp
    exact hK.out _ _ _ rfl rfl rfl (Below.refl _ _)
  simp only [List.setIfInBounds_toArray, List.set_cons_zero, List.set_cons_succ]
  refine obs_step (Eq.trans (by simp only [List.getElem?_toArray, List.getElem?_cons_succ, List.getElem?_cons_zero]; exact rfl) rfl) rfl (fun w' hS hV K hK => ?_) ?_
  · obtain ⟨q0, q1⟩ := hS.1.two
    go_simp
    exact hK.out _ _ _ rfl rfl rfl (Below.refl _ _)
  simp only [List.setIfInBounds_toArray, List.set_cons_zero, List.set_cons_succ]
  refine obs_step (Eq.trans (by simp only [List.getElem?_toArray, List.getElem?_cons_succ, List.getElem?_cons_zero]; exact rfl) rfl) rfl (fun w' hS hV K hK => ?_) ?_
  · obtain ⟨q0, q1⟩ := hS.1.two
    go_simp
    exact hK.out _ _ _ rfl rfl rfl (Below.refl _ _)
  simp only [List.setIfInBounds_toArray, List.set_cons_zero, List.set_cons_succ]
  refine obs_step (Eq.trans (by simp only [List.getElem?_toArray, List.getElem?_cons_succ, List.getElem?_cons_zero]; exact rfl) rfl) rfl (fun w' hS hV K hK => ?_) ?_
  · obtain ⟨q0, q1⟩ := hS.1.two
    go_simp
    exact hK.out _ _ _ rfl rfl rfl (Below.refl _ _)
  simp only [List.setIfInBounds_toArray, List.set_cons_zero, List.set_cons_succ]
  refine obs_step (Eq.trans (by simp only [List.getElem?_toArray, List.getElem?_cons_succ, List.getElem?_cons_zero]; exact rfl) rfl) rfl (fun w' hS hV K hK => ?_) ?_
  · have e2 : x 2 = (.agg #[.int .i64 P, .slice A n c]) := hV 2 (by decide)
    have e3 : x 3 = (.slice X (pw n) cx) := hV 3 (by decide)
    have e4 : x 4 = (.slice Y (pw n) cy) := hV 4 (by decide)
    obtain ⟨q0, q1⟩ := hS.1.two
    go_simp
    refine (l04Times_any P A n c sq _ _ xs _ _ ys _ hp hp2 hn (ha.below hS.2) hs (hx.below hS.2) hxs (hy.below hS.2) hys).mono ?_
    rintro e w1 ⟨A2, c2, rfl, hM⟩
    exact hK.out _ _ _ rfl rfl ⟨_, _, rfl, hM.after hS.2⟩ hM.b
  simp only [List.setIfInBounds_toArray, List.set_cons_zero, List.set_cons_succ]
  refine obs_step (Eq.trans (by simp only [List.getElem?_toArray, List.getElem?_cons_succ, List.getElem?_cons_zero]; exact rfl) rfl) rfl (fun w' hS hV K hK => ?_) ?_
  · obtain ⟨q0, q1⟩ := hS.1.two
    go_simp
    exact hK.out _ _ _ rfl rfl rfl (Below.refl _ _)
  simp only [List.setIfInBounds_toArray, List.set_cons_zero, List.set_cons_succ]
  refine obs_step (Eq.trans (by simp only [List.getElem?_toArray, List.getElem?_cons_succ, List.getElem?_cons_zero]; exact rfl) rfl) rfl (fun w' hS hV K hK => ?_) ?_
  · obtain ⟨q0, q1⟩ := hS.1.two
    go_simp
    exact hK.out _ _ _ rfl rfl rfl (Below.refl _ _)
  simp only [List.setIfInBounds_toArray, List.set_cons_zero, List.set_cons_succ]
  refine obs_step (Eq.trans (by simp only [List.getElem?_toArray, List.getElem?_cons_succ, List.getElem?_cons_zero]; exact rfl) rfl) rfl (fun w' hS hV K hK => ?_) ?_
  · obtain ⟨q0, q1⟩ := hS.1.two
    go_simp
    exact hK.out _ _ _ rfl rfl rfl (Below.refl _ _)
  simp only [List.setIfInBounds_toArray, List.set_cons_zero, List.set_cons_succ]
  refine obs_step (Eq.trans (by simp only [List.getElem?_toArray, List.getElem?_cons_succ, List.getElem?_cons_zero]; exact rfl) rfl) rfl (fun w' hS hV K hK => ?_) ?_
  · have e6 : x 6 = (.agg #[.int .i64 P, .slice A n c]) := hV 6 (by decide)
    have e7 : x 7 = (.slice Y (pw n) cy) := hV 7 (by decide)
    have e8 : x 8 = (.slice X (pw n) cx) := hV 8 (by decide)
    obtain ⟨q0, q1⟩ := hS.1.two
    go_simp
    refine (l04Times_any P A n c sq _ _ ys _ _ xs _ hp hp2 hn (ha.below hS.2) hs (hy.below hS.2) hys (hx.below hS.2) hxs).mono ?_
    rintro e w1 ⟨A2, c2, rfl, hM⟩
    exact hK.out _ _ _ rfl rfl ⟨_, _, rfl, hM.after hS.2⟩ hM.b
  simp only [List.setIfInBounds_toArray, List.set_cons_zero, List.set_cons_succ]
  refine obs_step (Eq.trans (by simp only [List.getElem?_toArray, List.getElem?_cons_succ, List.getElem?_cons_zero]; exact rfl) rfl) rfl (fun w' hS hV K hK => ?_) ?_
  · obtain ⟨q0, q1⟩ := hS.1.two
    go_simp
    exact hK.out _ _ _ rfl rfl rfl (Below.refl _ _)
  simp only [List.setIfInBounds_toArray, List.set_cons_zero, List.set_cons_succ]
  refine obs_step (Eq.trans (by simp only [List.getElem?_toArray, List.getElem?_cons_succ, List.getElem?_cons_zero]; exact rfl) rfl) rfl (fun w' hS hV K hK => ?_) ?_
  · have e10 : x 10 = (.pointer (some ⟨w.heap.size, 0, none⟩)) := hV 10 (by decide)
    obtain ⟨q0, q1⟩ := hS.1.two
    go_simp
    exact hK.out _ _ _ rfl rfl rfl (Below.refl _ _)
  simp only [List.setIfInBounds_toArray, List.set_cons_zero, List.set_cons_succ]
  refine obs_step (Eq.trans (by simp only [List.getElem?_toArray, List.getElem?_cons_succ, List.getElem?_cons_zero]; exact rfl) rfl) rfl (fun w' hS hV K hK => ?_) ?_
  · have e10 : x 10 = (.pointer (some ⟨w.heap.size, 0, none⟩)) := hV 10 (by decide)
    have e11 : x 11 = (.int .i64 P) := hV 11 (by decide)
    obtain ⟨q0, q1⟩ := hS.1.two
    go_simp
    exact hK.out _ _ _ rfl rfl rfl (Below.refl _ _)
  simp only [List.setIfInBounds_toArray, List.set_cons_zero, List.set_cons_succ]
  refine obs_step (Eq.trans (by simp only [List.getElem?_toArray, List.getElem?_cons_succ, List.getElem?_cons_zero]; exact rfl) rfl) rfl (fun w' hS hV K hK => ?_) ?_
  · have e0 : x 0 = (.pointer (some ⟨w.heap.size, 0, none⟩)) := hV 0 (by decide)
    have e1 : x 1 = (.int .i64 P) := hV 1 (by decide)
    have e2 : x 2 = (.agg #[.int .i64 P, .slice A n c]) := hV 2 (by decide)
    have e3 : x 3 = (.slice X (pw n) cx) := hV 3 (by decide)
    have e4 : x 4 = (.slice Y (pw n) cy) := hV 4 (by decide)
    obtain ⟨A5, c5, e5, h5⟩ := hV 5 (by decide)
    have e6 : x 6 = (.agg #[.int .i64 P, .slice A n c]) := hV 6 (by decide)
    have e7 : x 7 = (.slice Y (pw n) cy) := hV 7 (by decide)
    have e8 : x 8 = (.slice X (pw n) cx) := hV 8 (by decide)
    obtain ⟨A9, c9, e9, h9⟩ := hV 9 (by decide)
    have e10 : x 10 = (.pointer (some ⟨w.heap.size, 0, none⟩)) := hV 10 (by decide)
    have e11 : x 11 = (.int .i64 P) := hV 11 (by decide)
    have e12 : x 12 = (.int .i64 (P - 1)) := hV 12 (by decide)
    obtain ⟨q0, q1⟩ := hS.1.two
    go_simp
    refine (l02Plus_any P _ (pw n) _ _ (pw n) _ (P - 1) (mulL P sq xs ys) (mulL P sq ys xs) _ hp hp2 HPW (Nat.le_refl _) h5.rd (mulL_nums (by omega) sq xs ys) h9.rd (mulL_nums (by omega) sq ys xs) (by omega) (by omega)).mono ?_
    rintro e w1 ⟨A2, c2, rfl, hM⟩
    exact hK.out _ _ _ rfl rfl ⟨_, _, rfl, hM.after hS.2⟩ hM.b
  simp only [List.setIfInBounds_toArray, List.set_cons_zero, List.set_cons_succ]
  refine obs_step (Eq.trans (by simp only [List.getElem?_toArray, List.getElem?_cons_succ, List.getElem?_cons_zero]; exact rfl) rfl) rfl (fun w' hS hV K hK => ?_) ?_
  · have e0 : x 0 = (.pointer (some ⟨w.heap.size, 0, none⟩)) := hV 0 (by decide)
    have e1 : x 1 = (.int .i64 P) := hV 1 (by decide)
    have e2 : x 2 = (.agg #[.int .i64 P, .slice A n c]) := hV 2 (by decide)
    have e3 : x 3 = (.slice X (pw n) cx) := hV 3 (by decide)
    have e4 : x 4 = (.slice Y (pw n) cy) := hV 4 (by decide)
    obtain ⟨A5, c5, e5, h5⟩ := hV 5 (by decide)
    have e6 : x 6 = (.agg #[.int .i64 P, .slice A n c]) := hV 6 (by decide)
    have e7 : x 7 = (.slice Y (pw n) cy) := hV 7 (by decide)
    have e8 : x 8 = (.slice X (pw n) cx) := hV 8 (by decide)
    obtain ⟨A9, c9, e9, h9⟩ := hV 9 (by decide)
    have e10 : x 10 = (.pointer (some ⟨w.heap.size, 0, none⟩)) := hV 10 (by decide)
    have e11 : x 11 = (.int .i64 P) := hV 11 (by decide)
    have e12 : x 12 = (.int .i64 (P - 1)) := hV 12 (by decide)
    obtain ⟨A13, c13, e13, h13⟩ := hV 13 (by decide)
    obtain ⟨q0, q1⟩ := hS.1.two
    go_simp
    exact hK.out _ _ _ rfl rfl ⟨_, _, rfl, h13⟩ (Below.refl _ _)
  simp only [List.setIfInBounds_toArray, List.set_cons_zero, List.set_cons_succ]
  refine fun w' hS hV => ?_
  have e0 : x 0 = (.pointer (some ⟨w.heap.size, 0, none⟩)) := hV 0 (by decide)
  have e1 : x 1 = (.int .i64 P) := hV 1 (by decide)
  have e2 : x 2 = (.agg #[.int .i64 P, .slice A n c]) := hV 2 (by decide)
  have e3 : x 3 = (.slice X (pw n) cx) := hV 3 (by decide)
  have e4 : x 4 = (.slice Y (pw n) cy) := hV 4 (by decide)
  obtain ⟨A5, c5, e5, h5⟩ := hV 5 (by decide)
  have e6 : x 6 = (.agg #[.int .i64 P, .slice A n c]) := hV 6 (by decide)
  have e7 : x 7 = (.slice Y (pw n) cy) := hV 7 (by decide)
  have e8 : x 8 = (.slice X (pw n) cx) := hV 8 (by decide)
  obtain ⟨A9, c9, e9, h9⟩ := hV 9 (by decide)
  have e10 : x 10 = (.pointer (some ⟨w.heap.size, 0, none⟩)) := hV 10 (by decide)
  have e11 : x 11 = (.int .i64 P) := hV 11 (by decide)
  have e12 : x 12 = (.int .i64 (P - 1)) := hV 12 (by decide)
  obtain ⟨A13, c13, e13, h13⟩ := hV 13 (by decide)
  obtain ⟨A14, c14, e14, h14⟩ := hV 14 (by decide)
  simp only [e0, e1, e2, e3, e4, e5, e6, e7, e8, e9, e10, e11, e12, e13, e14]
  clear e0 e1 e2 e3 e4 e5 e6 e7 e8 e9 e10 e11 e12 e13 e14
  refine wpAny_done (by kernel_rfl) ?_ _
  go_wp2
  go_ret
  exact ⟨_, _, rfl, by rw [← brkL_eq hx.lenI hxs hy.lenI hys]; exact h14⟩
set_option maxHeartbeats 800000 in
theorem checkRegular_any (P : Int) (A B : Option Addr) (n c m d : Nat) (sq : List Int) (ms : List (List Int)) (w : World) (hn : n ≤ 1048576) (hm : m ≤ 1048576) (ha : Rd w A n (ints sq)) (hb : RdII w B m ms) (hms : ∀ ys ∈ ms, ys.length ≤ 1048576) :
    Calls Tryz.prog 71 #[.agg #[.int .i64 P, .slice A n c], .slice B m d] w fun e w' => e = .returned (.int .i64 (codeR P sq ms)) ∧ Below w.heap.size w w' := by
  have hB0 : Below w.heap.size w (w.alloc (.cells #[.int .i64 P, .slice A n c] 29)) := (Below.refl _ _).alloc (Nat.le_refl _) _
  have k0 : Blk (w.alloc (.cells #[.int .i64 P, .slice A n c] 29)) w.heap.size 29 #[.int .i64 P, .slice A n c] := Blk.new _ _ _
  have hcm := checkMultis_any P A B n c m d sq ms _ hn hm (ha.below hB0) (hb.below hB0) hms
  by_cases e1 : codeM P sq ms = 0
  · rw [e1] at hcm
    have E1 := Lib.hid e1
    clear e1
    cases hr : regB sq
    all_goals
      have HR := Lib.hid hr
      clear hr
      go_enter Tryz.func71, Tryz.ntmps71
      go_wp2_with fail
      refine hcm.mono ?_
      rintro e w1 ⟨rfl, hb1⟩
      have hB1 := hB0.trans (hb1.mono (by simp))
      have k1 := k0.below hb1 k0.lt
      obtain ⟨q0, q1⟩ := k1.two
      clear k0
      go_wp2_with fail
      refine (regular_any P A n c sq _ hn (ha.below hB1)).mono ?_
      rintro e w2 ⟨rfl, hb2⟩
      rw [HR.out]
      go_wp2
      go_ret
      exact ⟨ret_int (by unfold codeR; rw [if_pos E1.out, HR.out]; rfl), hB1.trans (hb2.mono hB1.size)⟩
  · obtain ⟨r, hr⟩ : ∃ r, r = codeM P sq ms := ⟨_, rfl⟩
    have HR := Lib.hid hr
    have E1 := Lib.hid e1
    have b0 : (r != 0) = true := code_ne (by rw [hr]; exact e1)
    rw [← hr] at hcm
    clear hr e1
    go_enter Tryz.func71, Tryz.ntmps71
    go_wp2_with fail
    refine hcm.mono ?_
    rintro e w1 ⟨rfl, hb1⟩
    go_wp2
    go_ret
    exact ⟨ret_int (by unfold codeR; rw [if_neg E1.out, HR.out]), hB0.trans (hb1.mono (by simp))⟩
theorem isBivector_any (X : Option Addr) (m cx : Nat) (xs : List Int) (w : World) (hm : m ≤ 64) (hx : Rd w X m (ints xs)) :
    Calls Tryz.prog 72 #[.slice X m cx] w fun e w' => e = .returned (.bool (onlyL xs 2)) ∧ Below w.heap.size w w' := by
  go_enter Tryz.func72, Tryz.ntmps72
  go_wp2_with fail
  refine (onlyGrade_any X m cx xs 2 w hm hx).mono ?_
  rintro e w1 ⟨rfl, hb⟩
  go_wp2
  go_ret
  exact ⟨rfl, hb⟩
set_option maxHeartbeats 1600000 in
set_option maxRecDepth 8000 in
theorem checkBivectors_any (P : Int) (A B : Option Addr) (n c m d : Nat) (sq : List Int) (ms : List (List Int)) (w : World) (hn : n ≤ 1048576) (hm : m ≤ 1048576) (ha : Rd w A n (ints sq)) (hb : RdII w B m ms) (hms : ∀ ys ∈ ms, ys.length ≤ 1048576) :
    Calls Tryz.prog 37 #[.agg #[.int .i64 P, .slice A n c], .slice B m d] w fun e w' => e = .returned (.int .i64 (codeB P sq ms)) ∧ Below w.heap.size w w' := by
  have hB0 : Below w.heap.size w (w.alloc (.cells #[.int .i64 P, .slice A n c] 29)) := (Below.refl _ _).alloc (Nat.le_refl _) _
  have k0 : Blk (w.alloc (.cells #[.int .i64 P, .slice A n c] 29)) w.heap.size 29 #[.int .i64 P, .slice A n c] := Blk.new _ _ _
  have hcm := checkRegular_any P A B n c m d sq ms _ hn hm (ha.below hB0) (hb.below hB0) hms
  by_cases e1 : codeR P sq ms = 0
  · obtain ⟨_, _, _, _, hd2, _, hms2⟩ := codeM_spec2 (codeR_zero2 e1)
    have hn6 : sq.length ≤ 6 := hd2
    have hml := hb.len
    rw [e1] at hcm
    have E1 := Lib.hid e1
    have HMS2 := Lib.hid hms2
    clear e1 hd2 hms2
    go_enter Tryz.func37, Tryz.ntmps37
    go_wp2_with fail
    refine hcm.mono ?_
    rintro e w1 ⟨rfl, hb1⟩
    have hB1 := hB0.trans (hb1.mono (by simp))
    clear k0 hB0 hb1
    have HML := Lib.hid hml
    clear hml
    go_wp2
    go_loopw [7, 16] (fun _ i wr => ∃ k : Nat, k ≤ m ∧ i = .int .i64 k ∧ (ms.take k).all (fun xs => onlyL xs 2) = true ∧ Below w.heap.size w wr) (fun _ i _ => m - (intOf i).toNat)
    case atStart => exact ⟨0, by omega, rfl, by simp, hB1⟩
    case round =>
      obtain ⟨k, hk, rfl, ht, hBr⟩ := hrel
      have HT := Lib.hid ht
      clear hB1 ht
      by_cases hlt : k < m
      · obtain ⟨g, o, rfl, hxk, A', c', hcx, hr0, hcc⟩ := (hb.below hBr).at_ hlt
        obtain ⟨hl1, hn1⟩ := HMS2.out ms[k] (List.getElem_mem hxk)
        have HL64 : ms[k].length ≤ 64 := by rw [hl1]; exact pw_le hn6
        clear hl1 hn1
        have i1 : (0 : Int) ≤ (k : Int) := by omega
        have i2 : (k : Int) < (m : Int) := by omega
        cases ho : onlyL ms[k] 2
        all_goals
          have HO := Lib.hid ho
          clear ho
          go_wp2_with fail
          refine (isBivector_any A' ms[k].length c' ms[k] _ HL64 hr0).mono ?_
          rintro e w2 ⟨rfl, hb2⟩
          rw [HO.out]
          have hB2 := hBr.trans (hb2.mono hBr.size)
          go_wp2
        · go_ret
          exact ⟨ret_int (codeB_bad E1.out (List.getElem_mem hxk) HO.out).symm, hB2⟩
        · go_roundw
          case rel => exact ⟨k + 1, by omega, by go_num, all_take hxk HT.out HO.out, hB2⟩
          case measure => simp [intOf]; omega
      · go_wp2
        go_ret
        refine ⟨ret_int (codeB_good E1.out ?_).symm, hBr⟩
        have := HT.out
        rwa [List.take_of_length_le (by rw [HML.out]; omega)] at this
  · obtain ⟨r, hr⟩ : ∃ r, r = codeR P sq ms := ⟨_, rfl⟩
    have HR := Lib.hid hr
    have E1 := Lib.hid e1
    have b0 : (r != 0) = true := code_ne (by rw [hr]; exact e1)
    rw [← hr] at hcm
    clear hr e1
    go_enter Tryz.func37, Tryz.ntmps37
    go_wp2_with fail
    refine hcm.mono ?_
    rintro e w1 ⟨rfl, hb1⟩
    go_wp2
    go_ret
    exact ⟨ret_int (by rw [codeB_ne E1.out, HR.out]), hB0.trans (hb1.mono (by simp))⟩
set_option maxHeartbeats 1600000 in
set_option maxRecDepth 8000 in
theorem l10Code_any (P : Int) (A B : Option Addr) (n c m d : Nat) (sq : List Int) (ms : List (List Int)) (w : World) (hn : n ≤ 1048576) (hm : m ≤ 1048576) (ha : Rd w A n (ints sq)) (hb : RdII w B m ms) (hms : ∀ ys ∈ ms, ys.length ≤ 1048576) :
    Calls Tryz.prog 28 #[.agg #[.int .i64 P, .slice A n c], .slice B m d] w fun e w' => e = .returned (.int .i64 (codeB P sq ms)) ∧ Below w.heap.size w w' := by
  have hB0 : Below w.heap.size w (w.alloc (.cells #[.int .i64 P, .slice A n c] 29)) := (Below.refl _ _).alloc (Nat.le_refl _) _
  have k0 : Blk (w.alloc (.cells #[.int .i64 P, .slice A n c] 29)) w.heap.size 29 #[.int .i64 P, .slice A n c] := Blk.new _ _ _
  have hcm := l05Regular_any P A B n c m d sq ms _ hn hm (ha.below hB0) (hb.below hB0) hms
  have hml := hb.len
  have HML := Lib.hid hml
  clear hml
  by_cases e1 : codeR P sq ms = 0
  · obtain ⟨_, _, _, _, hn6, _, hms2⟩ := codeM_spec2 (codeR_zero2 e1)
    rw [e1] at hcm
    have E1 := Lib.hid e1
    have HMS2 := Lib.hid hms2
    clear e1 hms2
    go_enter Tryz.func28, Tryz.ntmps28
    go_wp2_with fail
    refine hcm.mono ?_
    rintro e w1 ⟨rfl, hb1⟩
    have hB1 := hB0.trans (hb1.mono (by simp))
    have k1 := k0.below hb1 k0.lt
    clear k0 hB0 hb1
    go_wp2
    go_loopw [5, 6] (fun r i wr => ∃ (k : Nat) (v : Int), k ≤ m ∧ i = .int .i64 k ∧ r = .int .i64 v ∧ ((v = 0 ∧ (ms.take k).all (fun xs => onlyL xs 2) = true) ∨ (v ≠ 0 ∧ v = codeB P sq ms)) ∧ Blk wr w.heap.size 29 #[.int .i64 P, .slice A n c] ∧ Below w.heap.size w wr) (fun _ i _ => m - (intOf i).toNat)
    case atStart => exact ⟨0, 0, by omega, rfl, rfl, .inl ⟨rfl, by simp⟩, k1, hB1⟩
    case round =>
      obtain ⟨k, v, hk, rfl, rfl, hv, k2, hBr⟩ := hrel
      clear hB1 k1
      obtain ⟨q0, q1⟩ := k2.two
      rcases hv with ⟨rfl, ht⟩ | ⟨hv0, hv⟩
      rotate_left
      · have b1 : (v == 0) = false := by simp [hv0]
        have HV := Lib.hid hv
        clear hv hv0
        by_cases hlt : k < m
        all_goals
          go_wp2
          go_ret
          exact ⟨ret_int HV.out, hBr⟩
      have HT := Lib.hid ht
      clear ht
      by_cases hlt : k < m
      rotate_left
      · go_wp2
        go_ret
        refine ⟨ret_int (codeB_good E1.out ?_).symm, hBr⟩
        have := HT.out
        rwa [List.take_of_length_le (by rw [HML.out]; omega)] at this
      obtain ⟨g, o, rfl, hxk, A', c', hcx, hr0, hcc⟩ := (hb.below hBr).at_ hlt
      obtain ⟨hl1, hn1⟩ := HMS2.out ms[k] (List.getElem_mem hxk)
      have HL64 : ms[k].length ≤ 64 := by rw [hl1]; exact pw_le hn6
      clear hl1 hn1
      have i1 : (0 : Int) ≤ (k : Int) := by omega
      have i2 : (k : Int) < (m : Int) := by omega
      cases ho : onlyL ms[k] 2
      · have HS : Hid (decide (ms[k] = partG ms[k] 2) = false) := Lib.hid (by rw [onlyL_part2 HL64]; exact ho)
        have HO := Lib.hid ho
        clear ho
        go_wp2
        refine wp_obs 11 [[], [], [0, 1], [0, 1, 2], [], [], [4, 5], [4, 5, 6], [4, 5, 6, 7], [0, 1, 2, 3, 4, 5, 6, 7, 8], [0, 1, 2, 3, 4, 5, 6, 7, 8, 9]] [VIs (.slice (some ⟨g, o, none⟩) m d), VIs (.int .i64 (k)), VIs (.pointer (some ⟨g, o + k, none⟩)), VIs (.slice A' ms[k].length c'), VIs (.slice (some ⟨g, o, none⟩) m d), VIs (.int .i64 (k)), VIs (.pointer (some ⟨g, o + k, none⟩)), VIs (.slice A' ms[k].length c'), VSl w ms[k].length (partG ms[k] 2), VIs (.bool false), VIs (.bool true)] (fun w' => Blk w' w.heap.size 29 #[.int .i64 P, .slice A n c] ∧ Below w.heap.size w w' ∧ w'.cell? ⟨g, o + k, none⟩ = some (.slice A' ms[k].length c') ∧ Below wr.heap.size wr w') (by kernel_rfl) (by kernel_rfl) (fun _ _ h hb => ⟨h.1.below hb h.1.lt, h.2.1.trans (hb.mono h.2.1.size), (hb.cell (World.block_lt_of_cell? _ _ h.2.2.1)).trans h.2.2.1, h.2.2.2.trans (hb.mono h.2.2.2.size)⟩) (⟨k2.drew, hBr.drew, hcx, (Below.refl _ _).drew⟩) (fun x => ?_)
        refine obs_step (Eq.trans (by simp only [List.getElem?_toArray, List.getElem?_cons_zero]; exact rfl) rfl) rfl (fun w' hS hV K hK => ?_) ?_
        · obtain ⟨q0, q1⟩ := hS.1.two; have q2 := hS.2.2.1
          go_simp
          exact hK.out _ _ _ rfl rfl rfl (Below.refl _ _)
        simp only [List.setIfInBounds_toArray, List.set_cons_zero, List.set_cons_succ]
        refine obs_step (Eq.trans (by simp only [List.getElem?_toArray, List.getElem?_cons_succ, List.getElem?_cons_zero]; exact rfl) rfl) rfl (fun w' hS hV K hK => ?_) ?_
        · obtain ⟨q0, q1⟩ := hS.1.two; have q2 := hS.2.2.1
          go_simp
          exact hK.out _ _ _ rfl rfl rfl (Below.refl _ _)
        simp only [List.setIfInBounds_toArray, List.set_cons_zero, List.set_cons_succ]
        refine obs_step (Eq.trans (by simp only [List.getElem?_toArray, List.getElem?_cons_succ, List.getElem?_cons_zero]; exact rfl) rfl) rfl (fun w' hS hV K hK => ?_) ?_
        · have e0 : x 0 = (.slice (some ⟨g, o, none⟩) m d) := hV 0 (by decide)
          have e1 : x 1 = (.int .i64 (k)) := hV 1 (by decide)
          obtain ⟨q0, q1⟩ := hS.1.two; have q2 := hS.2.2.1
          go_simp
          exact hK.out _ _ _ rfl rfl rfl (Below.refl _ _)
        simp only [List.setIfInBounds_toArray, List.set_cons_zero, List.set_cons_succ]
        refine obs_step (Eq.trans (by simp only [List.getElem?_toArray, List.getElem?_cons_succ, List.getElem?_cons_zero]; exact rfl) rfl) rfl (fun w' hS hV K hK => ?_) ?_
        · have e0 : x 0 = (.slice (some ⟨g, o, none⟩) m d) := hV 0 (by decide)
          have e1 : x 1 = (.int .i64 (k)) := hV 1 (by decide)
          have e2 : x 2 = (.pointer (some ⟨g, o + k, none⟩)) := hV 2 (by decide)
          obtain ⟨q0, q1⟩ := hS.1.two; have q2 := hS.2.2.1
          go_simp
          exact hK.out _ _ _ rfl rfl rfl (Below.refl _ _)
        simp only [List.setIfInBounds_toArray, List.set_cons_zero, List.set_cons_succ]
        refine obs_step (Eq.trans (by simp only [List.getElem?_toArray, List.getElem?_cons_succ, List.getElem?_cons_zero]; exact rfl) rfl) rfl (fun w' hS hV K hK => ?_) ?_
        · obtain ⟨q0, q1⟩ := hS.1.two; have q2 := hS.2.2.1
          go_simp
          exact hK.out _ _ _ rfl rfl rfl (Below.refl _ _)
        simp only [List.setIfInBounds_toArray, List.set_cons_zero, List.set_cons_succ]
        refine obs_step (Eq.trans (by simp only [List.getElem?_toArray, List.getElem?_cons_succ, List.getElem?_cons_zero]; exact rfl) rfl) rfl (fun w' hS hV K hK => ?_) ?_
        · obtain ⟨q0, q1⟩ := hS.1.two; have q2 := hS.2.2.1
          go_simp
          exact hK.out _ _ _ rfl rfl rfl (Below.refl _ _)
        simp only [List.setIfInBounds_toArray, List.set_cons_zero, List.set_cons_succ]
        refine obs_step (Eq.trans (by simp only [List.getElem?_toArray, List.getElem?_cons_succ, List.getElem?_cons_zero]; exact rfl) rfl) rfl (fun w' hS hV K hK => ?_) ?_
        · have e4 : x 4 = (.slice (some ⟨g, o, none⟩) m d) := hV 4 (by decide)
          have e5 : x 5 = (.int .i64 (k)) := hV 5 (by decide)
          obtain ⟨q0, q1⟩ := hS.1.two; have q2 := hS.2.2.1
          go_simp
          exact hK.out _ _ _ rfl rfl rfl (Below.refl _ _)
        simp only [List.setIfInBounds_toArray, List.set_cons_zero, List.set_cons_succ]
        refine obs_step (Eq.trans (by simp only [List.getElem?_toArray, List.getElem?_cons_succ, List.getElem?_cons_zero]; exact rfl) rfl) rfl (fun w' hS hV K hK => ?_) ?_
        · have e4 : x 4 = (.slice (some ⟨g, o, none⟩) m d) := hV 4 (by decide)
          have e5 : x 5 = (.int .i64 (k)) := hV 5 (by decide)
          have e6 : x 6 = (.pointer (some ⟨g, o + k, none⟩)) := hV 6 (by decide)
          obtain ⟨q0, q1⟩ := hS.1.two; have q2 := hS.2.2.1
          go_simp
          exact hK.out _ _ _ rfl rfl rfl (Below.refl _ _)
        simp only [List.setIfInBounds_toArray, List.set_cons_zero, List.set_cons_succ]
        refine obs_step (Eq.trans (by simp only [List.getElem?_toArray, List.getElem?_cons_succ, List.getElem?_cons_zero]; exact rfl) rfl) rfl (fun w' hS hV K hK => ?_) ?_
        · have e4 : x 4 = (.slice (some ⟨g, o, none⟩) m d) := hV 4 (by decide)
          have e5 : x 5 = (.int .i64 (k)) := hV 5 (by decide)
          have e6 : x 6 = (.pointer (some ⟨g, o + k, none⟩)) := hV 6 (by decide)
          have e7 : x 7 = (.slice A' ms[k].length c') := hV 7 (by decide)
          obtain ⟨q0, q1⟩ := hS.1.two; have q2 := hS.2.2.1
          go_simp
          refine (l04Part_any A' _ c' ms[k] 2 _ HL64 (by omega) (hr0.below hS.2.2.2)).mono ?_
          rintro e w1 ⟨A2, c2, rfl, hM⟩
          exact hK.out _ _ _ rfl rfl ⟨_, _, rfl, hM.after hS.2.1⟩ hM.b
        simp only [List.setIfInBounds_toArray, List.set_cons_zero, List.set_cons_succ]
        refine obs_step (Eq.trans (by simp only [List.getElem?_toArray, List.getElem?_cons_succ, List.getElem?_cons_zero]; exact rfl) rfl) rfl (fun w' hS hV K hK => ?_) ?_
        · have e0 : x 0 = (.slice (some ⟨g, o, none⟩) m d) := hV 0 (by decide)
          have e1 : x 1 = (.int .i64 (k)) := hV 1 (by decide)
          have e2 : x 2 = (.pointer (some ⟨g, o + k, none⟩)) := hV 2 (by decide)
          have e3 : x 3 = (.slice A' ms[k].length c') := hV 3 (by decide)
          have e4 : x 4 = (.slice (some ⟨g, o, none⟩) m d) := hV 4 (by decide)
          have e5 : x 5 = (.int .i64 (k)) := hV 5 (by decide)
          have e6 : x 6 = (.pointer (some ⟨g, o + k, none⟩)) := hV 6 (by decide)
          have e7 : x 7 = (.slice A' ms[k].length c') := hV 7 (by decide)
          obtain ⟨A8, c8, e8, h8⟩ := hV 8 (by decide)
          obtain ⟨q0, q1⟩ := hS.1.two; have q2 := hS.2.2.1
          go_simp
          refine (same_b A' A8 _ _ c' c8 ms[k] (partG ms[k] 2) _ (by omega) (by omega) (hr0.below hS.2.2.2) h8.rd HS.out).mono ?_
          rintro e w1 ⟨rfl, j, rfl⟩
          exact hK.out _ _ _ rfl rfl rfl (below_drewN (Below.refl _ _) _)
        simp only [List.setIfInBounds_toArray, List.set_cons_zero, List.set_cons_succ]
        refine obs_step (Eq.trans (by simp only [List.getElem?_toArray, List.getElem?_cons_succ, List.getElem?_cons_zero]; exact rfl) rfl) rfl (fun w' hS hV K hK => ?_) ?_
        · have e0 : x 0 = (.slice (some ⟨g, o, none⟩) m d) := hV 0 (by decide)
          have e1 : x 1 = (.int .i64 (k)) := hV 1 (by decide)
          have e2 : x 2 = (.pointer (some ⟨g, o + k, none⟩)) := hV 2 (by decide)
          have e3 : x 3 = (.slice A' ms[k].length c') := hV 3 (by decide)
          have e4 : x 4 = (.slice (some ⟨g, o, none⟩) m d) := hV 4 (by decide)
          have e5 : x 5 = (.int .i64 (k)) := hV 5 (by decide)
          have e6 : x 6 = (.pointer (some ⟨g, o + k, none⟩)) := hV 6 (by decide)
          have e7 : x 7 = (.slice A' ms[k].length c') := hV 7 (by decide)
          obtain ⟨A8, c8, e8, h8⟩ := hV 8 (by decide)
          have e9 : x 9 = (.bool false) := hV 9 (by decide)
          obtain ⟨q0, q1⟩ := hS.1.two; have q2 := hS.2.2.1
          go_simp
          exact hK.out _ _ _ rfl rfl rfl (Below.refl _ _)
        simp only [List.setIfInBounds_toArray, List.set_cons_zero, List.set_cons_succ]
        refine fun w' hS hV => ?_
        have e0 : x 0 = (.slice (some ⟨g, o, none⟩) m d) := hV 0 (by decide)
        have e1 : x 1 = (.int .i64 (k)) := hV 1 (by decide)
        have e2 : x 2 = (.pointer (some ⟨g, o + k, none⟩)) := hV 2 (by decide)
        have e3 : x 3 = (.slice A' ms[k].length c') := hV 3 (by decide)
        have e4 : x 4 = (.slice (some ⟨g, o, none⟩) m d) := hV 4 (by decide)
        have e5 : x 5 = (.int .i64 (k)) := hV 5 (by decide)
        have e6 : x 6 = (.pointer (some ⟨g, o + k, none⟩)) := hV 6 (by decide)
        have e7 : x 7 = (.slice A' ms[k].length c') := hV 7 (by decide)
        obtain ⟨A8, c8, e8, h8⟩ := hV 8 (by decide)
        have e9 : x 9 = (.bool false) := hV 9 (by decide)
        have e10 : x 10 = (.bool true) := hV 10 (by decide)
        simp only [e0, e1, e2, e3, e4, e5, e6, e7, e8, e9, e10]
        clear e0 e1 e2 e3 e4 e5 e6 e7 e8 e9 e10
        refine wpAny_done (by kernel_rfl) ?_ _
        obtain ⟨k3, hB3, _, _⟩ := hS
        clear q0 q1
        obtain ⟨q0, q1⟩ := k3.two
        go_wp2
        go_roundw
        case rel => exact ⟨k + 1, 5, by omega, by go_num, rfl, .inr ⟨by decide, (codeB_bad E1.out (List.getElem_mem hxk) HO.out).symm⟩, k3, hB3⟩
        case measure => simp [intOf]; omega
      · have HS : Hid (decide (ms[k] = partG ms[k] 2) = true) := Lib.hid (by rw [onlyL_part2 HL64]; exact ho)
        have HO := Lib.hid ho
        clear ho
        go_wp2
        refine wp_obs 11 [[], [], [0, 1], [0, 1, 2], [], [], [4, 5], [4, 5, 6], [4, 5, 6, 7], [0, 1, 2, 3, 4, 5, 6, 7, 8], [0, 1, 2, 3, 4, 5, 6, 7, 8, 9]] [VIs (.slice (some ⟨g, o, none⟩) m d), VIs (.int .i64 (k)), VIs (.pointer (some ⟨g, o + k, none⟩)), VIs (.slice A' ms[k].length c'), VIs (.slice (some ⟨g, o, none⟩) m d), VIs (.int .i64 (k)), VIs (.pointer (some ⟨g, o + k, none⟩)), VIs (.slice A' ms[k].length c'), VSl w ms[k].length (partG ms[k] 2), VIs (.bool true), VIs (.bool false)] (fun w' => Blk w' w.heap.size 29 #[.int .i64 P, .slice A n c] ∧ Below w.heap.size w w' ∧ w'.cell? ⟨g, o + k, none⟩ = some (.slice A' ms[k].length c') ∧ Below wr.heap.size wr w') (by kernel_rfl) (by kernel_rfl) (fun _ _ h hb => ⟨h.1.below hb h.1.lt, h.2.1.trans (hb.mono h.2.1.size), (hb.cell (World.block_lt_of_cell? _ _ h.2.2.1)).trans h.2.2.1, h.2.2.2.trans (hb.mono h.2.2.2.size)⟩) (⟨k2.drew, hBr.drew, hcx, (Below.refl _ _).drew⟩) (fun x => ?_)
        refine obs_step (Eq.trans (by simp only [List.getElem?_toArray, List.getElem?_cons_zero]; exact rfl) rfl) rfl (fun w' hS hV K hK => ?_) ?_
        · obtain ⟨q0, q1⟩ := hS.1.two; have q2 := hS.2.2.1
          go_simp
          exact hK.out _ _ _ rfl rfl rfl (Below.refl _ _)
        simp only [List.setIfInBounds_toArray, List.set_cons_zero, List.set_cons_succ]
        refine obs_step (Eq.trans (by simp only [List.getElem?_toArray, List.getElem?_cons_succ, List.getElem?_cons_zero]; exact rfl) rfl) rfl (fun w' hS hV K hK => ?_) ?_
        · obtain ⟨q0, q1⟩ := hS.1.two; have q2 := hS.2.2.1
          go_simp
          exact hK.out _ _ _ rfl rfl rfl (Below.refl _ _)
        simp only [List.setIfInBounds_toArray, List.set_cons_zero, List.set_cons_succ]
        refine obs_step (Eq.trans (by simp only [List.getElem?_toArray, List.getElem?_cons_succ, List.getElem?_cons_zero]; exact rfl) rfl) rfl (fun w' hS hV K hK => ?_) ?_
        · have e0 : x 0 = (.slice (some ⟨g, o, none⟩) m d) := hV 0 (by decide)
          have e1 : x 1 = (.int .i64 (k)) := hV 1 (by decide)
          obtain ⟨q0, q1⟩ := hS.1.two; have q2 := hS.2.2.1
          go_simp
          exact hK.out _ _ _ rfl rfl rfl (Below.refl _ _)
        simp only [List.setIfInBounds_toArray, List.set_cons_zero, List.set_cons_succ]
        refine obs_step (Eq.trans (by simp only [List.getElem?_toArray, List.getElem?_cons_succ, List.getElem?_cons_zero]; exact rfl) rfl) rfl (fun w' hS hV K hK => ?_) ?_
        · have e0 : x 0 = (.slice (some ⟨g, o, none⟩) m d) := hV 0 (by decide)
          have e1 : x 1 = (.int .i64 (k)) := hV 1 (by decide)
          have e2 : x 2 = (.pointer (some ⟨g, o + k, none⟩)) := hV 2 (by decide)
          obtain ⟨q0, q1⟩ := hS.1.two; have q2 := hS.2.2.1
          go_simp
          exact hK.out _ _ _ rfl rfl rfl (Below.refl _ _)
        simp only [List.setIfInBounds_toArray, List.set_cons_zero, List.set_cons_succ]
        refine obs_step (Eq.trans (by simp only [List.getElem?_toArray, List.getElem?_cons_succ, List.getElem?_cons_zero]; exact rfl) rfl) rfl (fun w' hS hV K hK => ?_) ?_
        · obtain ⟨q0, q1⟩ := hS.1.two; have q2 := hS.2.2.1
          go_simp
          exact hK.out _ _ _ rfl rfl rfl (Below.refl _ _)
        simp only [List.setIfInBounds_toArray, List.set_cons_zero, List.set_cons_succ]
        refine obs_step (Eq.trans (by simp only [List.getElem?_toArray, List.getElem?_cons_succ, List.getElem?_cons_zero]; exact rfl) rfl) rfl (fun w' hS hV K hK => ?_) ?_
        · obtain ⟨q0, q1⟩ := hS.1.two; have q2 := hS.2.2.1
          go_simp
          exact hK.out _ _ _ rfl rfl rfl (Below.refl _ _)
        simp only [List.setIfInBounds_toArray, List.set_cons_zero, List.set_cons_succ]
        refine obs_step (Eq.trans (by simp only [List.getElem?_toArray, List.getElem?_cons_succ, List.getElem?_cons_zero]; exact rfl) rfl) rfl (fun w' hS hV K hK => ?_) ?_
        · have e4 : x 4 = (.slice (some ⟨g, o, none⟩) m d) := hV 4 (by decide)
          have e5 : x 5 = (.int .i64 (k)) := hV 5 (by decide)
          obtain ⟨q0, q1⟩ := hS.1.two; have q2 := hS.2.2.1
          go_simp
          exact hK.out _ _ _ rfl rfl rfl (Below.refl _ _)
        simp only [List.setIfInBounds_toArray, List.set_cons_zero, List.set_cons_succ]
        refine obs_step (Eq.trans (by simp only [List.getElem?_toArray, List.getElem?_cons_succ, List.getElem?_cons_zero]; exact rfl) rfl) rfl (fun w' hS hV K hK => ?_) ?_
        · have e4 : x 4 = (.slice (some ⟨g, o, none⟩) m d) := hV 4 (by decide)
          have e5 : x 5 = (.int .i64 (k)) := hV 5 (by decide)
          have e6 : x 6 = (.pointer (some ⟨g, o + k, none⟩)) := hV 6 (by decide)
          obtain ⟨q0, q1⟩ := hS.1.two; have q2 := hS.2.2.1
          go_simp
          exact hK.out _ _ _ rfl rfl rfl (Below.refl _ _)
        simp only [List.setIfInBounds_toArray, List.set_cons_zero, List.set_cons_succ]
        refine obs_step (Eq.trans (by simp only [List.getElem?_toArray, List.getElem?_cons_succ, List.getElem?_cons_zero]; exact rfl) rfl) rfl (fun w' hS hV K hK => ?_) ?_
        · have e4 : x 4 = (.slice (some ⟨g, o, none⟩) m d) := hV 4 (by decide)
          have e5 : x 5 = (.int .i64 (k)) := hV 5 (by decide)
          have e6 : x 6 = (.pointer (some ⟨g, o + k, none⟩)) := hV 6 (by decide)
          have e7 : x 7 = (.slice A' ms[k].length c') := hV 7 (by decide)
          obtain ⟨q0, q1⟩ := hS.1.two; have q2 := hS.2.2.1
          go_simp
          refine (l04Part_any A' _ c' ms[k] 2 _ HL64 (by omega) (hr0.below hS.2.2.2)).mono ?_
          rintro e w1 ⟨A2, c2, rfl, hM⟩
          exact hK.out _ _ _ rfl rfl ⟨_, _, rfl, hM.after hS.2.1⟩ hM.b
        simp only [List.setIfInBounds_toArray, List.set_cons_zero, List.set_cons_succ]
        refine obs_step (Eq.trans (by simp only [List.getElem?_toArray, List.getElem?_cons_succ, List.getElem?_cons_zero]; exact rfl) rfl) rfl (fun w' hS hV K hK => ?_) ?_
        · have e0 : x 0 = (.slice (some ⟨g, o, none⟩) m d) := hV 0 (by decide)
          have e1 : x 1 = (.int .i64 (k)) := hV 1 (by decide)
          have e2 : x 2 = (.pointer (some ⟨g, o + k, none⟩)) := hV 2 (by decide)
          have e3 : x 3 = (.slice A' ms[k].length c') := hV 3 (by decide)
          have e4 : x 4 = (.slice (some ⟨g, o, none⟩) m d) := hV 4 (by decide)
          have e5 : x 5 = (.int .i64 (k)) := hV 5 (by decide)
          have e6 : x 6 = (.pointer (some ⟨g, o + k, none⟩)) := hV 6 (by decide)
          have e7 : x 7 = (.slice A' ms[k].length c') := hV 7 (by decide)
          obtain ⟨A8, c8, e8, h8⟩ := hV 8 (by decide)
          obtain ⟨q0, q1⟩ := hS.1.two; have q2 := hS.2.2.1
          go_simp
          refine (same_b A' A8 _ _ c' c8 ms[k] (partG ms[k] 2) _ (by omega) (by omega) (hr0.below hS.2.2.2) h8.rd HS.out).mono ?_
          rintro e w1 ⟨rfl, j, rfl⟩
          exact hK.out _ _ _ rfl rfl rfl (below_drewN (Below.refl _ _) _)
        simp only [List.setIfInBounds_toArray, List.set_cons_zero, List.set_cons_succ]
        refine obs_step (Eq.trans (by simp only [List.getElem?_toArray, List.getElem?_cons_succ, List.getElem?_cons_zero]; exact rfl) rfl) rfl (fun w' hS hV K hK => ?_) ?_
        · have e0 : x 0 = (.slice (some ⟨g, o, none⟩) m d) := hV 0 (by decide)
          have e1 : x 1 = (.int .i64 (k)) := hV 1 (by decide)
          have e2 : x 2 = (.pointer (some ⟨g, o + k, none⟩)) := hV 2 (by decide)
          have e3 : x 3 = (.slice A' ms[k].length c') := hV 3 (by decide)
          have e4 : x 4 = (.slice (some ⟨g, o, none⟩) m d) := hV 4 (by decide)
          have e5 : x 5 = (.int .i64 (k)) := hV 5 (by decide)
          have e6 : x 6 = (.pointer (some ⟨g, o + k, none⟩)) := hV 6 (by decide)
          have e7 : x 7 = (.slice A' ms[k].length c') := hV 7 (by decide)
          obtain ⟨A8, c8, e8, h8⟩ := hV 8 (by decide)
          have e9 : x 9 = (.bool true) := hV 9 (by decide)
          obtain ⟨q0, q1⟩ := hS.1.two; have q2 := hS.2.2.1
          go_simp
          exact hK.out _ _ _ rfl rfl rfl (Below.refl _ _)
        simp only [List.setIfInBounds_toArray, List.set_cons_zero, List.set_cons_succ]
        refine fun w' hS hV => ?_
        have e0 : x 0 = (.slice (some ⟨g, o, none⟩) m d) := hV 0 (by decide)
        have e1 : x 1 = (.int .i64 (k)) := hV 1 (by decide)
        have e2 : x 2 = (.pointer (some ⟨g, o + k, none⟩)) := hV 2 (by decide)
        have e3 : x 3 = (.slice A' ms[k].length c') := hV 3 (by decide)
        have e4 : x 4 = (.slice (some ⟨g, o, none⟩) m d) := hV 4 (by decide)
        have e5 : x 5 = (.int .i64 (k)) := hV 5 (by decide)
        have e6 : x 6 = (.pointer (some ⟨g, o + k, none⟩)) := hV 6 (by decide)
        have e7 : x 7 = (.slice A' ms[k].length c') := hV 7 (by decide)
        obtain ⟨A8, c8, e8, h8⟩ := hV 8 (by decide)
        have e9 : x 9 = (.bool true) := hV 9 (by decide)
        have e10 : x 10 = (.bool false) := hV 10 (by decide)
        simp only [e0, e1, e2, e3, e4, e5, e6, e7, e8, e9, e10]
        clear e0 e1 e2 e3 e4 e5 e6 e7 e8 e9 e10
        refine wpAny_done (by kernel_rfl) ?_ _
        obtain ⟨k3, hB3, _, _⟩ := hS
        clear q0 q1
        obtain ⟨q0, q1⟩ := k3.two
        go_wp2
        go_roundw
        case rel => exact ⟨k + 1, 0, by omega, by go_num, rfl, .inl ⟨rfl, all_take hxk HT.out HO.out⟩, k3, hB3⟩
        case measure => simp [intOf]; omega
  · obtain ⟨r, hr⟩ : ∃ r, r = codeR P sq ms := ⟨_, rfl⟩
    have HR := Lib.hid hr
    have E1 := Lib.hid e1
    have b0 : (r == 0) = false := by rw [hr]; simp [e1]
    rw [← hr] at hcm
    clear hr e1
    go_enter Tryz.func28, Tryz.ntmps28
    go_wp2_with fail
    refine hcm.mono ?_
    rintro e w1 ⟨rfl, hb1⟩
    have hB1 := hB0.trans (hb1.mono (by simp))
    clear k0 hB0 hb1
    go_wp2
    go_loopw [5, 6] (fun v i wr => v = .int .i64 r ∧ i = .int .i64 0 ∧ Below w.heap.size w wr) (fun _ _ _ => 0)
    case atStart => exact ⟨rfl, rfl, hB1⟩
    case round =>
      obtain ⟨rfl, rfl, hBr⟩ := hrel
      clear hB1
      by_cases hlt : 0 < m
      all_goals
        go_wp2
        go_ret
        exact ⟨ret_int (by rw [codeB_ne E1.out, HR.out]), hBr⟩
end Go.Proofs.YtklnkhkfcalndaaGreat
namespace Go.Proofs.YtklnkhkfcalndaaGreat
open Go.RowKit
/-- A function of lists of n numbers is linear, but for multiples of P. -/
def LinF (P : Int) (n : Nat) (F : List Int → Int) : Prop := ∀ v : List Int, v.length = n → NumsL P v → F v % P = (sumTo n fun k => F (unitRow n k) * v.getD k 0) % P
section
variable {P : Int} {n : Nat} {F G : List Int → Int}
theorem LinF.congr (hp : 2 ≤ P) (h : LinF P n F) (he : ∀ v : List Int, v.length = n → NumsL P v → G v % P = F v % P) : LinF P n G := fun v hv hn => by
  rw [he v hv hn, h v hv hn]
  refine sumTo_mod P fun k _ => ?_
  rw [Int.mul_emod, ← he _ (unitRow_len n k) (unitRow_nums hp n k), ← Int.mul_emod]
theorem LinF.mul (h : LinF P n F) (c : Int) : LinF P n (fun v => c * F v) := fun v hv hn => by
  show c * F v % P = _
  rw [Int.mul_emod, h v hv hn, ← Int.mul_emod, ← sumTo_mul]
  refine sumTo_mod P fun k _ => ?_
  rw [Int.mul_assoc]
theorem LinF.add (h : LinF P n F) (h' : LinF P n G) : LinF P n (fun v => F v + G v) := fun v hv hn => by
  show (F v + G v) % P = _
  rw [Int.add_emod, h v hv hn, h' v hv hn, ← Int.add_emod, ← sumTo_add]
  refine sumTo_mod P fun k _ => ?_
  rw [Int.add_mul]
theorem LinF.zero : LinF P n (fun _ => 0) := fun v _ _ => by
  show (0 : Int) % P = _
  rw [sumTo_zero fun k _ => by simp]
theorem LinF.sum {H : Nat → List Int → Int} : ∀ (N : Nat), (∀ a, a < N → LinF P n (H a)) → LinF P n (fun v => sumTo N fun a => H a v)
  | 0, _ => LinF.zero
  | N + 1, h => (LinF.sum N fun a ha => h a (by omega)).add (h N (by omega))
end
theorem unitRow_getD {n k i : Nat} (hi : i < n) : (unitRow n k).getD i 0 = if k = i then 1 else 0 := by
  unfold unitRow
  rw [List.getD_eq_getElem?_getD, List.getElem?_set]
  by_cases h : k = i
  · rw [if_pos h, if_pos (by simp; omega), if_pos h]; rfl
  · rw [if_neg h, if_neg h, List.getElem?_replicate, if_pos hi]; rfl
end Go.Proofs.YtklnkhkfcalndaaGreat
namespace Go.Proofs.YtklnkhkfcalndaaGreat
/-- The masks below N of grade 2, and the others. -/
def msT (N : Nat) : List Nat := (List.range N).filter fun m => pc m == 2
def nsT (N : Nat) : List Nat := (List.range N).filter fun m => !(pc m == 2)
theorem msT_succ (N : Nat) : msT (N + 1) = if pc N = 2 then msT N ++ [N] else msT N := by
  unfold msT
  rw [List.range_succ, List.filter_append]
  by_cases h : pc N = 2 <;> simp [h]
theorem nsT_succ (N : Nat) : nsT (N + 1) = if pc N = 2 then nsT N else nsT N ++ [N] := by
  unfold nsT
  rw [List.range_succ, List.filter_append]
  by_cases h : pc N = 2 <;> simp [h]
theorem msT_le (N : Nat) : (msT N).length ≤ N := Nat.le_trans (List.length_filter_le _ _) (by simp)
theorem nsT_le (N : Nat) : (nsT N).length ≤ N := Nat.le_trans (List.length_filter_le _ _) (by simp)
theorem msT_mem {N m : Nat} : m ∈ msT N ↔ m < N ∧ pc m = 2 := by simp [msT]
theorem nsT_mem {N m : Nat} : m ∈ nsT N ↔ m < N ∧ pc m ≠ 2 := by simp [nsT]
theorem msT_at {N j : Nat} (h : j < (msT N).length) : (msT N).getD j 0 < N ∧ pc ((msT N).getD j 0) = 2 := msT_mem.1 (getD_mem 0 h)
theorem sumTo_app {α : Type} (d : α) (xs : List α) (x : α) (F : α → Int) : sumTo (xs ++ [x]).length (fun j => F ((xs ++ [x]).getD j d)) = sumTo xs.length (fun j => F (xs.getD j d)) + F x := by
  rw [List.length_append]
  show sumTo (xs.length + 1) _ = _
  rw [sumTo_succ]
  congr 1
  · exact sumTo_congr fun j hj => by rw [getD_app_left d _ hj]
  · have := getD_app_right d xs [x] 0
    rw [Nat.add_zero] at this
    rw [this]; rfl
theorem sumTo_msT (F : Nat → Int) : ∀ N, (sumTo N fun m => if pc m = 2 then F m else 0) = sumTo (msT N).length fun j => F ((msT N).getD j 0) := by
  intro N
  induction N with
  | zero => rfl
  | succ N ih =>
    rw [sumTo_succ, ih, msT_succ]
    by_cases h : pc N = 2
    · rw [if_pos h, if_pos h, sumTo_app]
    · rw [if_neg h, if_neg h, Int.add_zero]
theorem msT_nodup (N : Nat) : (msT N).Nodup := List.nodup_range.filter _
theorem msT_inj {N i j : Nat} (hi : i < (msT N).length) (hj : j < (msT N).length) (h : (msT N).getD i 0 = (msT N).getD j 0) : i = j := by
  rw [getD_of_lt 0 hi, getD_of_lt 0 hj] at h
  exact (List.getElem_inj (msT_nodup N)).1 h
section
variable {P : Int} {sq : List Int} {n : Nat} {xs : List Int}
theorem brk_anti {a b : List Int} (ha : a.length = pw n) (hna : NumsL P a) (hb : b.length = pw n) (hnb : NumsL P b) {i : Nat} (hi : i < pw n) : (brkL P sq n a b).getD i 0 % P = (-((brkL P sq n b a).getD i 0)) % P := by
  unfold brkL
  rw [timesL_two P sq n a b ha hna, timesL_two P sq n b a hb hnb]
  rw [plusL_getD _ _ (by rw [mulL_len, ha]; exact hi), plusL_getD _ _ (by rw [mulL_len, hb]; exact hi)]
  generalize (mulL P sq a b).getD i 0 = X
  generalize (mulL P sq b a).getD i 0 = Y
  rw [cg_self, ← Int.zero_sub ((Y + -1 * X) % P), Int.sub_emod, cg_self, ← Int.sub_emod]
  congr 1
  omega
/-- The columns and rows of the program's. -/
def ccol (P : Int) (sq : List Int) (n : Nat) (xs : List Int) (m : Nat) : List Int := if pc m = 2 then brkL P sq n (unitRow (pw n) m) xs else List.replicate (pw n) 0
def crows (P : Int) (sq : List Int) (n : Nat) (xs : List Int) : List (List Int) := transL (tab (pw n) (ccol P sq n xs)) ++ (nsT (pw n)).map (unitRow (pw n))
def cenL (P : Int) (sq : List Int) (n : Nat) (xs : List Int) : List (List Int) := kernL P (crows P sq n xs) (pw n)
/-- .. of the reference's. -/
def scols (P : Int) (sq : List Int) (n : Nat) (xs : List Int) : List (List Int) := (msT (pw n)).map fun m => brkL P sq n xs (unitRow (pw n) m)
def embT (N : Nat) (z : List Int) (k : Nat) : List Int := (List.range k).foldl (fun o j => o.set ((msT N).getD j 0) (z.getD j 0)) (List.replicate N 0)
theorem embT_succ (N : Nat) (z : List Int) (k : Nat) : embT N z (k + 1) = (embT N z k).set ((msT N).getD k 0) (z.getD k 0) := by simp [embT, List.range_succ]
theorem embT_len (N : Nat) (z : List Int) (k : Nat) : (embT N z k).length = N := by
  induction k with
  | zero => simp [embT]
  | succ k ih => rw [embT_succ, List.length_set, ih]
theorem embT_nums {N : Nat} (hp : 0 < P) {z : List Int} (hz : NumsL P z) (k : Nat) : NumsL P (embT N z k) := by
  induction k with
  | zero => exact NumsL.replicate hp _
  | succ k ih => rw [embT_succ]; exact ih.set _ (hz.getD hp k)
theorem embT_at {N : Nat} (z : List Int) {j : Nat} : ∀ k, k ≤ (msT N).length → j < k → (embT N z k).getD ((msT N).getD j 0) 0 = z.getD j 0 := by
  intro k
  induction k with
  | zero => intro _ h; omega
  | succ k ih =>
    intro hk hj
    rw [embT_succ, getD_set]
    by_cases h : (msT N).getD k 0 = (msT N).getD j 0
    · have := msT_inj (show k < _ by omega) (show j < _ by omega) h
      subst this
      rw [if_pos ⟨rfl, by rw [embT_len]; exact (msT_at (by omega)).1⟩]
    · rw [if_neg fun hh => h hh.1]
      have : j ≠ k := fun e => h (by rw [e])
      exact ih (by omega) (by omega)
theorem embT_no {N : Nat} (z : List Int) {m : Nat} (hm : pc m ≠ 2) : ∀ k, k ≤ (msT N).length → (embT N z k).getD m 0 = 0 := by
  intro k
  induction k with
  | zero =>
    intro _
    by_cases h : m < N
    · rw [getD_of_lt 0 (by simpa [embT] using h)]; simp [embT]
    · exact getD_of_ge 0 (by simp [embT]; omega)
  | succ k ih =>
    intro hk
    rw [embT_succ, getD_set, if_neg fun hh => hm (by rw [← hh.1]; exact (msT_at (by omega)).2)]
    exact ih (by omega)
def semb (P : Int) (sq : List Int) (n : Nat) (xs : List Int) : List (List Int) := (kernL P (transL (scols P sq n xs)) (msT (pw n)).length).map fun z => embT (pw n) z (msT (pw n)).length
def scenL (P : Int) (sq : List Int) (n : Nat) (xs : List Int) : List (List Int) := if (msT (pw n)).length = 0 then [] else basisL P (semb P sq n xs)
theorem scols_tab (hp : 2 ≤ P) : Tab P (pw n) (scols P sq n xs) := fun x hx => by
  obtain ⟨m, _, rfl⟩ := List.mem_map.1 hx
  exact ⟨brkL_len _ _ _ _ _, brkL_nums hp _ _ _ _⟩
theorem scols_len : (scols P sq n xs).length = (msT (pw n)).length := by unfold scols; rw [List.length_map]
theorem semb_tab (hp : 2 ≤ P) : Tab P (pw n) (semb P sq n xs) := fun x hx => by
  obtain ⟨z, hz, rfl⟩ := List.mem_map.1 hx
  exact ⟨embT_len _ _ _, embT_nums (by omega) (kernL_tab hp _ _ z hz).2 _⟩
theorem ccol_ok (hp : 2 ≤ P) (m : Nat) : (ccol P sq n xs m).length = pw n ∧ NumsL P (ccol P sq n xs m) := by
  unfold ccol
  split
  · exact ⟨brkL_len _ _ _ _ _, brkL_nums hp _ _ _ _⟩
  · exact ⟨List.length_replicate, NumsL.replicate (by omega) _⟩
theorem cct_tab (hp : 2 ≤ P) : Tab P (pw n) (tab (pw n) (ccol P sq n xs)) := Tab.tab fun m _ => ccol_ok hp m
theorem crows_tab (hp : 2 ≤ P) : Tab P (pw n) (crows P sq n xs) := by
  unfold crows
  refine Tab.append ?_ fun x hx => ?_
  · have := transL_tab (p := P) (by omega) (cct_tab (sq := sq) (n := n) (xs := xs) hp)
    rwa [tab_len] at this
  · obtain ⟨m, _, rfl⟩ := List.mem_map.1 hx
    exact ⟨unitRow_len _ _, unitRow_nums hp _ _⟩
theorem orth_trans {p : Int} {N K : Nat} {M : List (List Int)} (hT : Tab p N M) (hl : M.length = K) (h0 : 0 < K) (v : Nat → Int) : Orth p K (transL M) v ↔ ∀ i, i < N → (sumTo K fun q => ent M q i * v q) % p = 0 := by
  unfold Orth
  rw [transL_len hT (by omega)]
  refine forall_congr' fun i => forall_congr' fun hi => ?_
  have : (sumTo K fun q => ent (transL M) i q * v q) = sumTo K fun q => ent M q i * v q := sumTo_congr fun q hq => by
    have e : ent (transL M) i q = ent M q i := by
      show ((transL M).getD i []).getD q 0 = _
      unfold transL
      rw [row0_len hT (by omega), tab_getD hi, tab_getD (by omega)]
    rw [e]
  rw [this]
/-- What the rows of the program's ask for. -/
theorem orth_crows (hp : 2 ≤ P) (hx : xs.length = pw n) (hxs : NumsL P xs) (v : Nat → Int) : Orth P (pw n) (crows P sq n xs) v ↔ (∀ i, i < pw n → (sumTo (msT (pw n)).length fun j => ent (scols P sq n xs) j i * v ((msT (pw n)).getD j 0)) % P = 0) ∧ ∀ q, q < pw n → pc q ≠ 2 → v q % P = 0 := by
  unfold crows
  rw [Orth.append, orth_trans (cct_tab hp) (tab_len _ _) (pw_pos n)]
  refine and_congr (forall_congr' fun i => forall_congr' fun hi => ?_) ?_
  · have e : (sumTo (pw n) fun q => ent (tab (pw n) (ccol P sq n xs)) q i * v q) % P = ((-1) * sumTo (msT (pw n)).length fun j => ent (scols P sq n xs) j i * v ((msT (pw n)).getD j 0)) % P := by
      rw [sumTo_congr (g := fun q => if pc q = 2 then (brkL P sq n (unitRow (pw n) q) xs).getD i 0 * v q else 0) fun q hq => by
        unfold ent ccol
        rw [tab_getD hq]
        by_cases h : pc q = 2
        · rw [if_pos h, if_pos h]
        · rw [if_neg h, if_neg h, getD_of_lt 0 (by rw [List.length_replicate]; exact hi)]; simp, sumTo_msT fun q => (brkL P sq n (unitRow (pw n) q) xs).getD i 0 * v q, ← sumTo_mul]
      refine sumTo_mod P fun j hj => ?_
      have hk : ent (scols P sq n xs) j i = (brkL P sq n xs (unitRow (pw n) ((msT (pw n)).getD j 0))).getD i 0 := by
        unfold ent scols
        rw [getD_of_lt [] (by rw [List.length_map]; exact hj), List.getElem_map, getD_of_lt 0 hj]
      rw [hk, ← Int.mul_assoc, Int.mul_emod, brk_anti (unitRow_len _ _) (unitRow_nums hp _ _) hx hxs hi, ← Int.mul_emod, Int.neg_mul, Int.neg_mul, Int.neg_mul, Int.one_mul]
    rw [e]
    constructor
    · intro h
      have := cg_mul (show (-1 : Int) % P = (-1) % P from rfl) (h.trans (Int.zero_emod P).symm)
      rw [← Int.mul_assoc] at this
      simpa using this
    · intro h
      have := cg_mul (show (-1 : Int) % P = (-1) % P from rfl) (h.trans (Int.zero_emod P).symm)
      rw [this]; simp
  · constructor
    · intro h q hq hne
      obtain ⟨i, hi, hiq⟩ := List.getElem_of_mem (nsT_mem.2 ⟨hq, hne⟩)
      have := h i (by rw [List.length_map]; exact hi)
      rw [sumTo_one q hq fun r hr hrq => by
        unfold ent
        rw [getD_of_lt [] (by rw [List.length_map]; exact hi), List.getElem_map, hiq, unitRow_getD hr, if_neg (fun e => hrq e.symm), Int.zero_mul]] at this
      unfold ent at this
      rw [getD_of_lt [] (by rw [List.length_map]; exact hi), List.getElem_map, hiq, unitRow_getD hq, if_pos rfl, Int.one_mul] at this
      exact this
    · intro h i hi
      rw [List.length_map] at hi
      obtain ⟨hq, hne⟩ := nsT_mem.1 (List.getElem_mem hi)
      rw [sumTo_one ((nsT (pw n))[i]) hq fun r hr hrq => by
        unfold ent
        rw [getD_of_lt [] (by rw [List.length_map]; exact hi), List.getElem_map, unitRow_getD hr, if_neg (fun e => hrq e.symm), Int.zero_mul]]
      unfold ent
      rw [getD_of_lt [] (by rw [List.length_map]; exact hi), List.getElem_map, unitRow_getD hq, if_pos rfl, Int.one_mul]
      exact h _ hq hne
theorem ent_semb {i m : Nat} (hi : i < (semb P sq n xs).length) : ent (semb P sq n xs) i m = (embT (pw n) ((kernL P (transL (scols P sq n xs)) (msT (pw n)).length).getD i []) (msT (pw n)).length).getD m 0 := by
  have hi' : i < (kernL P (transL (scols P sq n xs)) (msT (pw n)).length).length := by unfold semb at hi; rwa [List.length_map] at hi
  unfold ent semb
  rw [getD_of_lt [] (by rw [List.length_map]; exact hi'), getD_of_lt [] hi', List.getElem_map]
/-- Both ways tell the same. -/
theorem cen_same (hP : isP P = true) (hx : xs.length = pw n) (hxs : NumsL P xs) : scenL P sq n xs = cenL P sq n xs := by
  have hp : 2 ≤ P := by have := isP_ge hP; omega
  have hst := scols_tab (P := P) (sq := sq) (n := n) (xs := xs) hp
  have hct := crows_tab (P := P) (sq := sq) (n := n) (xs := xs) hp
  unfold scenL cenL
  by_cases hK : (msT (pw n)).length = 0
  · rw [if_pos hK]
    refine Red.unique hp (Red.nil _) (kernL_red hP _ _) (Tab.nil _ _) (kernL_tab hp _ _) (fun i hi => absurd hi (by simp)) fun i hi => ?_
    have ho := (orth_crows hp hx hxs _).1 ((kernL_sp hP hct).1 (Sp.row (p := P) (n := pw n) hi))
    refine (Sp.zero P (pw n) []).congr fun q hq => ?_
    rw [ho.2 q hq fun h2 => by
      have := msT_mem.2 ⟨hq, h2⟩
      rw [List.eq_nil_of_length_eq_zero hK] at this
      cases this]
    exact Int.zero_emod P
  · rw [if_neg hK]
    have hK0 : 0 < (msT (pw n)).length := by omega
    have hsl : (scols P sq n xs).length = (msT (pw n)).length := scols_len
    have hTT := transL_tab (p := P) (by omega) hst
    rw [hsl] at hTT
    have hor := orth_trans hst hsl hK0
    have hso := semb_tab (P := P) (sq := sq) (n := n) (xs := xs) hp
    have hbi := basisL_in hP (semb P sq n xs) hso
    refine Red.unique hp (basisL_red hP _ hso) (kernL_red hP _ _) (basisL_tab (by omega) _ hso) (kernL_tab hp _ _) (hbi.1.trans fun i hi => (kernL_sp hP hct).2 ((orth_crows hp hx hxs _).2 ⟨fun q hq => ?_, fun q hq h2 => ?_⟩)) fun i hi => hbi.2.sp ?_
    · have hi' : i < (kernL P (transL (scols P sq n xs)) (msT (pw n)).length).length := by unfold semb at hi; rwa [List.length_map] at hi
      have ho := (hor _).1 ((kernL_sp hP hTT).1 (Sp.row (p := P) (n := (msT (pw n)).length) hi')) q hq
      refine Eq.trans (congrArg (· % P) (sumTo_congr fun j hj => ?_)) ho
      rw [ent_semb hi, embT_at _ _ (Nat.le_refl _) hj]; rfl
    · rw [ent_semb hi, embT_no _ h2 _ (Nat.le_refl _), Int.zero_emod]
    · have ho := (orth_crows hp hx hxs _).1 ((kernL_sp hP hct).1 (Sp.row (p := P) (n := pw n) hi))
      obtain ⟨c, hc⟩ := (kernL_sp hP hTT).2 ((hor fun j => ent (kernL P (crows P sq n xs) (pw n)) i ((msT (pw n)).getD j 0)).2 ho.1)
      have hll : (semb P sq n xs).length = (kernL P (transL (scols P sq n xs)) (msT (pw n)).length).length := by unfold semb; rw [List.length_map]
      refine ⟨c, fun q hq => ?_⟩
      by_cases h2 : pc q = 2
      · obtain ⟨j, hj, hjq⟩ := List.getElem_of_mem (msT_mem.2 ⟨hq, h2⟩)
        have hjq' : (msT (pw n)).getD j 0 = q := by rw [getD_of_lt 0 hj, hjq]
        have := hc j hj
        simp only [hjq'] at this
        rw [this, hll]
        congr 1
        refine sumTo_congr fun r hr => ?_
        rw [ent_semb (by omega), ← hjq', embT_at _ _ (Nat.le_refl _) hj]; rfl
      · rw [ho.2 q hq h2, sumTo_zero fun r hr => by rw [ent_semb hr, embT_no _ h2 _ (Nat.le_refl _), Int.mul_zero], Int.zero_emod]
end
theorem cenL_tab {P : Int} (hp : 2 ≤ P) (sq : List Int) (n : Nat) (xs : List Int) : Tab P (pw n) (cenL P sq n xs) := kernL_tab hp _ _
theorem cenL_len {P : Int} (hP : isP P = true) (sq : List Int) (n : Nat) (xs : List Int) : (cenL P sq n xs).length ≤ pw n := kernL_len hP _ _
end Go.Proofs.YtklnkhkfcalndaaGreat
namespace Go.Proofs.YtklnkhkfcalndaaGreat
open Go.RowKit
theorem Nest.setNew {w1 w2 : World} {B : Nat} {rows : List Value} {xss : List (List Int)} {A : Option Addr} {n c : Nat} {xs : List Int} (h : Nest w1 B rows xss) (hr : Mk w1 w2 2 A n c (ints xs)) (hB : B ≤ w1.heap.size) (k : Nat) :
    Nest w2 B (rows.set k (.slice A n c)) (xss.set k xs) := by
  have hn : xs.length = n := by have := hr.2.len; rwa [ints_length] at this
  subst hn
  have hnew : ∀ g, (Value.slice A xs.length c).ownBlock = some g → w1.heap.size ≤ g := fun g hg => (World.ownsRow.lt hr.2 g hg).1
  refine ⟨by simp [h.len], fun j hj => ?_, fun i j g hij hi => ?_⟩
  · have hj' : j < xss.length := by simpa using hj
    by_cases hk : k = j
    · subst hk
      rw [List.getElem_set_self]
      exact ⟨A, c, by rw [List.getElem?_set_self (by rw [h.len]; exact hj')], hr.2.base hB⟩
    · obtain ⟨A', c', e, ho⟩ := h.row j hj'
      rw [List.getElem_set_ne hk]
      exact ⟨A', c', by rw [List.getElem?_set_ne hk]; exact e, ho.below hr.1⟩
  · rw [List.getElem?_set] at hi ⊢
    by_cases hki : k = i
    · subst hki
      rw [if_pos rfl] at hi
      rw [if_neg (by omega)]
      split at hi
      · intro hj
        have h1 := (h.block j g hj).2
        have h2 := hnew g (by simpa using hi)
        omega
      · simp at hi
    · rw [if_neg hki] at hi
      have hgi := (h.block i g hi).2
      by_cases hkj : k = j
      · rw [if_pos hkj]
        split
        · intro hj
          have h2 := hnew g (by simpa using hj)
          omega
        · simp
      · rw [if_neg hkj]
        exact h.apart i j g hij hi
theorem Nest.apart_ne {w : World} {B : Nat} {rows : List Value} {xss : List (List Int)} (h : Nest w B rows xss) (i j g : Nat) (hij : i ≠ j) (hi : (rows[i]?).bind Value.ownBlock = some g) : (rows[j]?).bind Value.ownBlock ≠ some g := by
  rcases Nat.lt_or_gt_of_ne hij with hlt | hgt
  · exact h.apart i j g hlt hi
  · intro hj
    exact h.apart j i g hgt hj hi
/-- The rows in another order. -/
theorem Nest.moved {w : World} {B : Nat} {rows rows' : List Value} {xss xss' : List (List Int)} (h : Nest w B rows xss) (s : Nat → Nat) (hs : ∀ i j, i ≠ j → s i ≠ s j) (hl : rows'.length = xss'.length) (hr : ∀ k, rows'[k]? = rows[s k]?) (hx : ∀ k, xss'[k]? = xss[s k]?) : Nest w B rows' xss' := by
  refine ⟨hl, fun k hk => ?_, fun i j g hij hi => ?_⟩
  · have e := hx k
    rw [List.getElem?_eq_getElem hk] at e
    obtain ⟨hk', e'⟩ := List.getElem?_eq_some_iff.1 e.symm
    obtain ⟨A, c, er, ho⟩ := h.row (s k) hk'
    rw [e'] at er ho
    exact ⟨A, c, by rw [hr k, er], ho⟩
  · rw [hr] at hi ⊢
    exact h.apart_ne _ _ _ (hs i j (by omega)) hi
theorem swapL_get? (m : List (List Int)) {i j : Nat} (hi : i < m.length) (hj : j < m.length) (k : Nat) : (swapL m i j)[k]? = m[if k = j then i else if k = i then j else k]? := by
  unfold swapL
  rw [List.getElem?_set, List.getElem?_set]
  by_cases h1 : j = k
  · subst h1
    rw [if_pos rfl, if_pos rfl, List.length_set, if_pos hj, getD_of_lt [] hi, List.getElem?_eq_getElem hi]
  · have h1' : ¬ k = j := fun e => h1 e.symm
    rw [if_neg h1, if_neg h1']
    by_cases h2 : i = k
    · subst h2
      rw [if_pos rfl, if_pos rfl, if_pos hi, getD_of_lt [] hj, List.getElem?_eq_getElem hj]
    · have h2' : ¬ k = i := fun e => h2 e.symm
      rw [if_neg h2, if_neg h2']
theorem swapV_get? (m : List Value) {i j : Nat} {ri rj : Value} (hi : m[i]? = some ri) (hj : m[j]? = some rj) (k : Nat) : ((m.set i rj).set j ri)[k]? = m[if k = j then i else if k = i then j else k]? := by
  have hil := (List.getElem?_eq_some_iff.1 hi).1
  have hjl := (List.getElem?_eq_some_iff.1 hj).1
  rw [List.getElem?_set, List.getElem?_set]
  by_cases h1 : j = k
  · subst h1
    rw [if_pos rfl, if_pos rfl, List.length_set, if_pos hjl, hi]
  · have h1' : ¬ k = j := fun e => h1 e.symm
    rw [if_neg h1, if_neg h1']
    by_cases h2 : i = k
    · subst h2
      rw [if_pos rfl, if_pos rfl, if_pos hil, hj]
    · have h2' : ¬ k = i := fun e => h2 e.symm
      rw [if_neg h2, if_neg h2']
theorem Nest.swap {w : World} {B : Nat} {rows : List Value} {xss : List (List Int)} (h : Nest w B rows xss) {i j : Nat} {ri rj : Value} (hi : rows[i]? = some ri) (hj : rows[j]? = some rj) : Nest w B ((rows.set i rj).set j ri) (swapL xss i j) := by
  have hil := (List.getElem?_eq_some_iff.1 hi).1
  have hjl := (List.getElem?_eq_some_iff.1 hj).1
  rw [h.len] at hil hjl
  refine h.moved (fun k => if k = j then i else if k = i then j else k) (fun a b hab => ?_) (by simp [swapL, h.len]) (swapV_get? rows hi hj) (swapL_get? xss hil hjl)
  show (if a = j then i else if a = i then j else a) ≠ (if b = j then i else if b = i then j else b)
  split <;> split <;> (try split) <;> (try split) <;> omega
section
variable {w0 w w1 w2 : World} {g n c : Nat} {xss : List (List Int)}
/-- Rows exchanged. -/
theorem MkII.swap (h : MkII w0 w (some ⟨g, 0, none⟩) n c xss) {i j : Nat} (hi : i < n) (hj : j < n) {ri rj : Value} (ci : w.cell? ⟨g, i, none⟩ = some ri) (cj : w.cell? ⟨g, j, none⟩ = some rj) :
    MkII w0 ((w.setCell ⟨g, i, none⟩ rj).setCell ⟨g, j, none⟩ ri) (some ⟨g, 0, none⟩) n c (swapL xss i j) := by
  obtain ⟨rows, hm, hn⟩ := h
  have ei : rows[i]? = some ri := by
    obtain ⟨u, hu, hc⟩ := hm.2.cell_ hi
    rw [hu, ← ci, hc]
  have ej : rows[j]? = some rj := by
    obtain ⟨u, hu, hc⟩ := hm.2.cell_ hj
    rw [hu, ← cj, hc]
  obtain ⟨m1, g1⟩ := hm.set i rj
  obtain ⟨m2, g2⟩ := m1.set j ri
  exact ⟨_, m2, ((hn.grown hm.2 (by decide) g1).grown m1.2 (by decide) g2).swap ei ej⟩
/-- A row replaced by a new one. -/
theorem MkII.setRow (h : MkII w0 w1 (some ⟨g, 0, none⟩) n c xss) {A1 : Option Addr} {m c1 : Nat} {xs : List Int} (hr : Mk w1 w2 2 A1 m c1 (ints xs)) (k : Nat) :
    MkII w0 (w2.setCell ⟨g, k, none⟩ (.slice A1 m c1)) (some ⟨g, 0, none⟩) n c (xss.set k xs) := by
  obtain ⟨rows, hm, hn⟩ := h
  have hm2 := hm.below hr.1
  obtain ⟨m1, g1⟩ := hm2.set k (.slice A1 m c1)
  exact ⟨_, m1, (hn.setNew hr hm.1.size k).grown hm2.2 (by decide) g1⟩
/-- A row of its own stays when a cell of the outer list is written. -/
theorem MkII.rowKept (h : MkII w0 w (some ⟨g, 0, none⟩) n c xss) {B : Nat} {A' : Option Addr} {m c' : Nat} {us : List Value} (ho : Own w B 2 A' m c' us) (k : Nat) (u : Value) : Own (w.setCell ⟨g, k, none⟩ u) B 2 A' m c' us := by
  obtain ⟨rows, hm, hn⟩ := h
  obtain ⟨m1, g1⟩ := hm.set k u
  exact ho.grown g1 (ho.ne hm.2 (by decide))
/-- One row's place is given to another row, which is then replaced by a new one. -/
theorem MkII.swapSet (h : MkII w0 w (some ⟨g, 0, none⟩) n c xss) {f d : Nat} (hf : f < n) (hd : d < n) {rf rd : Value} (cf : w.cell? ⟨g, f, none⟩ = some rf) (cd : w.cell? ⟨g, d, none⟩ = some rd)
    {A1 : Option Addr} {m c1 : Nat} {xs : List Int} (hr : Mk (w.setCell ⟨g, f, none⟩ rd) w2 2 A1 m c1 (ints xs)) :
    MkII w0 (w2.setCell ⟨g, d, none⟩ (.slice A1 m c1)) (some ⟨g, 0, none⟩) n c ((swapL xss d f).set d xs) := by
  obtain ⟨rows, hm, hn⟩ := h
  have ef : rows[f]? = some rf := by
    obtain ⟨u, hu, hc⟩ := hm.2.cell_ hf
    rw [hu, ← cf, hc]
  have ed : rows[d]? = some rd := by
    obtain ⟨u, hu, hc⟩ := hm.2.cell_ hd
    rw [hu, ← cd, hc]
  obtain ⟨m1, g1⟩ := hm.set f rd
  have hm2 := m1.below hr.1
  obtain ⟨m3, g3⟩ := hm2.set d (.slice A1 m c1)
  have hsz : w0.heap.size ≤ (w.setCell ⟨g, f, none⟩ rd).heap.size := m1.1.size
  have hns := ((hn.grown hm.2 (by decide) g1).swap ed ef).setNew hr hsz d
  have e1 : (((rows.set d rf).set f rd).set d (.slice A1 m c1)) = ((rows.set f rd).set d (.slice A1 m c1)) := by
    apply List.ext_getElem?
    intro k
    simp only [List.getElem?_set, List.length_set]
    by_cases h1 : d = k
    · simp [h1]
    · simp only [h1, if_false]
  rw [e1] at hns
  exact ⟨_, m3, hns.grown hm2.2 (by decide) g3⟩
theorem MkII.frozen_ (h : MkII w0 w (some ⟨g, 0, none⟩) n c xss) (k : Nat) : w.frozen? ⟨g, k, none⟩ = false := by
  obtain ⟨rows, hm, _⟩ := h
  exact hm.2.frozen_ k
theorem MkII.cellSet (h : MkII w0 w (some ⟨g, 0, none⟩) n c xss) (k : Nat) {A1 : Option Addr} {m c1 : Nat} {j : Nat} (hj : j < n) : ∃ v, (w.setCell ⟨g, k, none⟩ (.slice A1 m c1)).cell? ⟨g, j, none⟩ = some v := by
  obtain ⟨rows, hm, _⟩ := h
  obtain ⟨m1, _⟩ := hm.set k (.slice A1 m c1)
  obtain ⟨v, _, hv⟩ := m1.2.cell_ hj
  exact ⟨v, hv⟩
theorem MkII.outSet (h : MkII w0 w (some ⟨g, 0, none⟩) n c xss) (k : Nat) (u : Value) : ∃ us, Mk w0 (w.setCell ⟨g, k, none⟩ u) 22 (some ⟨g, 0, none⟩) n c us := by
  obtain ⟨rows, hm, _⟩ := h
  exact ⟨_, (hm.set k u).1⟩
theorem MkII.outer {A : Option Addr} (h : MkII w0 w A n c xss) : ∃ us, Mk w0 w 22 A n c us := by
  obtain ⟨rows, hm, _⟩ := h
  exact ⟨_, hm⟩
/-- The list cut down. -/
theorem MkII.cut {A : Option Addr} {k : Nat} (h : MkII w0 w A n c xss) (hk : k ≤ n) : MkII w0 w A k c (xss.take k) := by
  obtain ⟨rows, hm, hn⟩ := h
  refine ⟨rows.take k, ⟨hm.1, hm.2.cut hk⟩, by rw [List.length_take, List.length_take, hn.len], fun j hj => ?_, fun i j b hij hi => ?_⟩
  · have hj2 : j < k ∧ j < xss.length := by rw [List.length_take] at hj; omega
    obtain ⟨A', c', e, ho⟩ := hn.row j hj2.2
    rw [List.getElem_take]
    exact ⟨A', c', by rw [List.getElem?_take, if_pos hj2.1]; exact e, ho⟩
  · rw [List.getElem?_take] at hi ⊢
    split at hi
    · split
      · exact hn.apart i j b hij hi
      · simp
    · simp at hi
end
theorem ent_at {M : List (List Int)} {i k : Nat} (hi : i < M.length) (hk : k < M[i].length) : ent M i k = M[i][k] := by
  unfold ent
  rw [getD_of_lt [] hi, getD_of_lt 0 hk]
theorem Own.keep {w w' : World} {B : Nat} {E : TypeId} {A : Option Addr} {n c : Nat} {us : List Value} (h : Own w B E A n c us) (hk : ∀ b, B ≤ b → b < w.heap.size → w'.heap[b]? = w.heap[b]?) : Rd w' A n us := by
  refine ⟨h.len, fun hn => ?_⟩
  rcases h.form with ⟨_, h0⟩ | ⟨g, rfl, hg, hg2⟩
  · omega
  · obtain ⟨g', o, e, hc⟩ := h.rd.2 hn
    refine ⟨g', o, e, fun k u hu => ?_⟩
    injection e with e
    injection e with e1 _ _
    subst e1
    exact (World.cell?_of_block (hk g hg hg2)).trans (hc k u hu)
theorem MkII.keep {w0 w w' : World} {A : Option Addr} {n c : Nat} {xss : List (List Int)} (h : MkII w0 w A n c xss) (hk : ∀ b, w0.heap.size ≤ b → b < w.heap.size → w'.heap[b]? = w.heap[b]?) : RdII w' A n xss := by
  obtain ⟨rows, hm, hn⟩ := h
  exact ⟨rows, hm.2.keep hk, hn.len, fun k hk' => by obtain ⟨A', c', e, ho⟩ := hn.row k hk'; exact ⟨A', c', e, ho.keep hk, ho.cap⟩⟩
/-- A new row is appended: what else is said of memory, too. -/
theorem wpList_appRowG {ops : Array Oper} {rest : List Oper} {o : Oper} {a : Act} {Q : Exit → Act → World → Prop} (w0 wr w1 : World)
    (hgd : o.guard = none) (s x : Operand) (ho : o.op = .call { callee := .builtin .append, args := #[s, x], argTypes := #[26, 26] })
    (A : Option Addr) (n c : Nat) (xss : List (List Int)) (A1 : Option Addr) (m c1 : Nat) (xs : List Int) (hM : MkII w0 wr A n c xss) (hr : Mk wr w1 2 A1 m c1 (ints xs)) (hn : n ≤ 1099511627776)
    (hs : a.eval s = .slice A n c) (hx : a.eval x = .slice (some ⟨w1.heap.size, 0, none⟩) 1 1)
    (h : ∀ A' c' w', MkII w0 w' A' (n + 1) c' (xss ++ [xs]) → w1.grownBy w' (Value.slice A n c).ownBlock → (∃ g, A' = some ⟨g, 0, none⟩ ∧ ((Value.slice A n c).ownBlock = some g ∨ w1.heap.size ≤ g)) → wpList Tryz.prog ops Q rest (a.put o.dst (.slice A' (n + 1) c')) w') :
    wpList Tryz.prog ops Q (o :: rest) a (w1.alloc (.cells #[.slice A1 m c1] 22)) := by
  obtain ⟨rows, hm, hnest⟩ := hM
  have hm1 := hm.below hr.1
  have hn1 := hnest.snoc hr hm.1.size
  refine wpList_app1 w0 w1 26 22 (.slice none 0 0) 24 Tryz.underlying26 info_s rfl (by omega) hgd s x ho A n c rows (.slice A1 m c1) hm1 hn rfl hs hx ?_
  intro A' c' w' hM' hg hat
  exact h A' c' w' ⟨_, hM', hn1.grown hm1.2 (by decide) hg⟩ hg hat
/-- What is kept of the blocks between two sizes, and where a list lies that grows. -/
def Keeps (w2 w3 wr : World) (v : Value) : Prop := w3.heap.size ≤ wr.heap.size ∧ (∀ b, w2.heap.size ≤ b → b < w3.heap.size → wr.heap[b]? = w3.heap[b]?) ∧ ∀ gb, v.ownBlock = some gb → gb < w2.heap.size ∨ w3.heap.size ≤ gb
theorem lt_of_own {g gb k n c : Nat} (e : (Value.slice (some ⟨g, 0, none⟩) n c).ownBlock = some gb) (h : g < k) : gb < k := by
  have : g = gb := by simpa [Value.ownBlock] using e
  omega
theorem Keeps.step {w2 w3 wr w5 w6 : World} {A A' : Option Addr} {n c c' n' : Nat} (h : Keeps w2 w3 wr (.slice A n c)) (hb : Below wr.heap.size wr w5) (hg : w5.grownBy w6 (Value.slice A n c).ownBlock)
    (hat : ∃ g, A' = some ⟨g, 0, none⟩ ∧ ((Value.slice A n c).ownBlock = some g ∨ w5.heap.size ≤ g)) : Keeps w2 w3 w6 (.slice A' n' c') := by
  obtain ⟨h1, h2, h3⟩ := h
  have s1 := hb.size
  have s2 := hg.size
  refine ⟨by omega, fun b hb1 hb2 => ?_, fun gb hgb => ?_⟩
  · rw [hg.block b (by omega) (fun e => ?_), hb.block b (by omega), h2 b hb1 hb2]
    rcases h3 b e.symm with h | h <;> omega
  · obtain ⟨g, rfl, hor⟩ := hat
    have : g = gb := by simpa [Value.ownBlock] using hgb
    subst this
    rcases hor with he | he
    · exact h3 g he
    · right; omega
theorem MkII.ne_blk {w0 w : World} {A : Option Addr} {n c g : Nat} {xss : List (List Int)} {t : TypeId} {cs : Array Value} (h : MkII w0 w A n c xss) (hb : Blk w g t cs) (hE : 22 ≠ t) : some g ≠ (Value.slice A n c).ownBlock := by
  obtain ⟨rows, hm, _⟩ := h
  exact hm.2.ne_blk hb hE
theorem RdII.row0 {w : World} {g o n : Nat} {M : List (List Int)} {p : Int} {m : Nat} (h : RdII w (some ⟨g, o, none⟩) n M) (h0 : 0 < n) (hT : Tab p m M) : ∃ A0 c0, w.cell? ⟨g, o, none⟩ = some (.slice A0 m c0) := by
  obtain ⟨g', o', e', hx0, A0, c0, hc, _, _⟩ := h.at_ h0
  injection e' with e'
  injection e' with e1 e2 _
  subst e1; subst e2
  refine ⟨A0, c0, ?_⟩
  rw [Nat.add_zero] at hc
  rw [hc, (hT M[0] (List.getElem_mem hx0)).1]
end Go.Proofs.YtklnkhkfcalndaaGreat
namespace Go.Proofs.YtklnkhkfcalndaaGreat
open Go.RowKit
set_option maxRecDepth 8000 in
set_option maxHeartbeats 400000 in
theorem clone_any (A : Option Addr) (n c : Nat) (xs : List Int) (w : World) (hn : n ≤ 65536) (ha : Rd w A n (ints xs)) :
    Calls Tryz.prog 127 #[.slice A n c] w fun e w' => ∃ A' c', e = .returned (.slice A' n c') ∧ MkI w w' A' n c' xs := by
  have hxl : xs.length = n := by have := ha.1; rwa [ints_length] at this
  cases A with
  | none =>
    have h0 : n = 0 := by
      rcases Nat.eq_zero_or_pos n with h | h
      · exact h
      · obtain ⟨g, o, e, _⟩ := ha.2 h; cases e
    subst h0
    have hxs : xs = [] := List.eq_nil_of_length_eq_zero hxl
    subst hxs
    clear ha hxl hn
    have hq := fun w : World => Lib.run_eql_slice_nil (P := Tryz.prog) w 22 2 none 0 c 0 0 Tryz.underlying22
    simp only [Option.isNone_none] at hq
    go_enter Tryz.func127, Tryz.ntmps127
    go_wp2
    go_ret
    exact ⟨none, 0, rfl, Mk.nil (Below.refl _ _)⟩
  | some p =>
    have hM0 := Mk.lit (E := 2) (Below.refl w.heap.size w) #[] (by simp)
    obtain ⟨i, hi, h1, h2, h3⟩ := info_parts info_i
    obtain ⟨b1, b2⟩ := bound_of (Nat.le_trans hn (by decide))
    clear b1
    have HB := Lib.hid b2
    clear b2
    have hnews : ∀ (j : Nat) (u : Value), (ints xs)[j]? = some u → (w.alloc (.cells #[] 2)).cell? (p.add j) = some u := fun j u hu => by
      have hj : j < n := by have := (List.getElem?_eq_some_iff.1 hu).1; rw [ints_length] at this; omega
      obtain ⟨g, o, e, hc⟩ := (ha.below ((Below.refl _ w).alloc (Nat.le_refl _) (.cells #[] 2))).2 (by omega)
      injection e with e; subst e
      rw [Addr.add_lit]
      exact hc j u hu
    have Hx := Lib.hid hxl
    have HN := Lib.hid hnews
    have HI := Lib.hid hi
    have H1 := Lib.hid h1
    have H2 := Lib.hid h2
    have H3 := Lib.hid h3
    clear hnews hi h1 h2 h3 hxl
    have hq := fun w : World => Lib.run_eql_slice_nil (P := Tryz.prog) w 22 2 (some p) n c 0 0 Tryz.underlying22
    simp only [Option.isNone_some] at hq
    go_enter Tryz.func127, Tryz.ntmps127
    go_wp2_with (at_builtin; refine wpList_append_own_at (w.alloc (.cells #[] 2)) rfl _ _ 22 rfl w.heap.size 2 i _ 1 8 Tryz.underlying22 HI.out H1.out H2.out H3.out rfl (by omega) (.slice (some ⟨w.heap.size, 0, none⟩) 0 0) 0 [] rfl hM0.2 p n c (ints xs) rfl (by rw [ints_length, Hx.out, Nat.mul_one]) HN.out (by intro u hu; obtain ⟨y, _, rfl⟩ := List.mem_map.1 hu; rfl) (by simp only [maxLen]; omega) (by have := HB.out 8 (by omega); omega) (by simp) ?_; intro v' w' hown hg _ _)
    have hb' : Below w.heap.size w w' := hM0.1.grown hg (by simp) (fun k hk => (hM0.2.lt k hk).1)
    rw [Nat.zero_add, List.nil_append] at hown
    rcases hown.2 with ⟨rfl, h0⟩ | ⟨g, cap, cur, rfl, hr⟩
    · subst h0
      go_ret
      exact ⟨none, 0, rfl, hb', hown⟩
    · go_ret
      exact ⟨_, _, rfl, hb', hown⟩
end Go.Proofs.YtklnkhkfcalndaaGreat
