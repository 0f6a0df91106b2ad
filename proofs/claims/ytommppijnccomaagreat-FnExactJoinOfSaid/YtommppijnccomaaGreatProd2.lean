/-
  The product of two multivectors: the specification's function.
-/
import Derived.Test.YtommppijnccomaaGreatProd
import Derived.Test.YtommppijnccomaaGreatFac2
namespace Go.Proofs.YtommppijnccomaaGreat
open Go.RowKit

theorem keepD4 {w1 w2 : World} {p q r s : Addr} {u v x y : Value} (h : w1.cell? p = some u ∧ w1.cell? q = some v ∧ w1.cell? r = some x ∧ w1.cell? s = some y) (hb : Below w1.heap.size w1 w2) :
    w2.cell? p = some u ∧ w2.cell? q = some v ∧ w2.cell? r = some x ∧ w2.cell? s = some y :=
  ⟨(hb.cell (World.block_lt_of_cell? _ _ h.1)).trans h.1, (hb.cell (World.block_lt_of_cell? _ _ h.2.1)).trans h.2.1, (hb.cell (World.block_lt_of_cell? _ _ h.2.2.1)).trans h.2.2.1, (hb.cell (World.block_lt_of_cell? _ _ h.2.2.2)).trans h.2.2.2⟩
theorem keepD4_set {w1 : World} {g k a b c d i j l m : Nat} {u v x y z : Value} (h : w1.cell? ⟨a, i, none⟩ = some u ∧ w1.cell? ⟨b, j, none⟩ = some v ∧ w1.cell? ⟨c, l, none⟩ = some x ∧ w1.cell? ⟨d, m, none⟩ = some y) (hg : g ≠ a ∧ g ≠ b ∧ g ≠ c ∧ g ≠ d) :
    (w1.setCell ⟨g, k, none⟩ z).cell? ⟨a, i, none⟩ = some u ∧ (w1.setCell ⟨g, k, none⟩ z).cell? ⟨b, j, none⟩ = some v ∧ (w1.setCell ⟨g, k, none⟩ z).cell? ⟨c, l, none⟩ = some x ∧ (w1.setCell ⟨g, k, none⟩ z).cell? ⟨d, m, none⟩ = some y :=
  ⟨(World.cell?_setCell_far _ _ _ _ hg.1).trans h.1, (World.cell?_setCell_far _ _ _ _ hg.2.1).trans h.2.1, (World.cell?_setCell_far _ _ _ _ hg.2.2.1).trans h.2.2.1, (World.cell?_setCell_far _ _ _ _ hg.2.2.2).trans h.2.2.2⟩

theorem mod_mul_add (v a f p : Int) : (v + a % p * f) % p = (v + a * f) % p := by
  rw [Int.add_emod, mod_mul, ← Int.add_emod]

set_option maxRecDepth 2000 in
set_option maxHeartbeats 3200000 in
theorem l04Times_any (P : Int) (A : Option Addr) (n c : Nat) (sq : List Int) (X : Option Addr) (cx : Nat) (xs : List Int) (Y : Option Addr) (cy : Nat) (ys : List Int) (w : World) (hp : 2 ≤ P) (hp2 : P ≤ 13) (hn : n ≤ 6)
    (ha : Rd w A n (ints sq)) (hs : NumsL P sq) (hx : Rd w X (pw n) (ints xs)) (hxs : NumsL P xs) (hy : Rd w Y (pw n) (ints ys)) (hys : NumsL P ys) :
    Calls Tryz.prog 59 #[.agg #[.int .i64 P, .slice A n c], .slice X (pw n) cx, .slice Y (pw n) cy] w fun e w' => ∃ A' c', e = .returned (.slice A' (pw n) c') ∧ MkI w w' A' (pw n) c' (prodL P sq (fun _ _ => true) xs ys) := by
  have hxl : xs.length = pw n := by have := hx.1; rwa [ints_length] at this
  have hyl : ys.length = pw n := by have := hy.1; rwa [ints_length] at this
  have Hx := Lib.hid hxl; clear hxl
  have Hy := Lib.hid hyl; clear hyl
  have hpw : pw n ≤ 64 := pw_le hn
  have hmk := make_i (P := Tryz.prog) 22 2 Tryz.underlying22 info_i (pw n) (by omega)
  have hB0 : Below w.heap.size w (w.alloc (.cells #[.int .i64 P, .slice A n c] 28)) := (Below.refl _ w).alloc (Nat.le_refl _) _
  have hM := Mk.made (E := 2) (n := pw n) (z := .int .i64 0) hB0 (by simp only [maxLen]; omega)
  rw [ints_replicate] at hM
  have hk0 : Blk ((w.alloc (.cells #[.int .i64 P, .slice A n c] 28)).alloc (.cells (madeCells #[.int .i64 0] (pw n)) 2)) w.heap.size 28 #[.int .i64 P, .slice A n c] := (Blk.new w _ _).alloc _
  go_enter Tryz.func59, Tryz.ntmps59
  go_wp2
  clear hmk
  obtain ⟨w1, hw1⟩ : ∃ W, W = (w.alloc (.cells #[.int .i64 P, .slice A n c] 28)).alloc (.cells (madeCells #[.int .i64 0] (pw n)) 2) := ⟨_, rfl⟩
  rw [← hw1] at hM hk0 ⊢
  rw [World.size_alloc] at hM
  clear hB0 hw1
  obtain ⟨g, hg⟩ : ∃ g, g = w.heap.size + 1 := ⟨_, rfl⟩
  rw [← hg] at hM ⊢
  have hg1 : w.heap.size + 1 ≤ g := by omega
  clear hg
  go_loopw [8, 9] (fun i _ wr => ∃ k : Nat, k ≤ pw n ∧ i = .int .i64 k ∧ MkI w wr (some ⟨g, 0, none⟩) (pw n) (pw n) (addRows P sq (fun _ _ => true) xs ys (List.replicate (pw n) 0) k) ∧ Blk wr w.heap.size 28 #[.int .i64 P, .slice A n c]) (fun i _ _ => pw n - (intOf i).toNat)
  case atStart => exact ⟨0, by omega, rfl, by simpa [addRows] using hM, hk0⟩
  case round =>
    obtain ⟨k, hk, rfl, hM2, hk2⟩ := hrel
    clear hM hk0
    by_cases hlt : k < pw n
    · obtain ⟨gx, ox, hX, hxk, hcw⟩ := hx.int hlt
      subst hX
      obtain ⟨x1, x2⟩ := hxs _ (List.getElem_mem hxk)
      have hxn : Hid (xs.getD k 0 = xs[k]) := Lib.hid (by rw [List.getD_eq_getElem?_getD, List.getElem?_eq_getElem hxk]; rfl)
      have hgx := World.block_lt_of_cell? _ _ hcw
      have HGX : Hid (g ≠ gx) := Lib.hid (by simp at hgx; omega)
      have HCW := Lib.hid hcw
      clear hcw hgx
      have hR0 : MkI w wr (some ⟨g, 0, none⟩) (pw n) (pw n) (addRow P sq (fun _ _ => true) xs ys k (addRows P sq (fun _ _ => true) xs ys (List.replicate (pw n) 0) k) 0) := by simpa [addRow] using hM2
      have hN0 : NumsL P (addRows P sq (fun _ _ => true) xs ys (List.replicate (pw n) 0) k) := addRows_nums sq _ xs ys k (by omega) (NumsL.replicate (by omega) _)
      obtain ⟨L0, hL0⟩ : ∃ L, L = addRows P sq (fun _ _ => true) xs ys (List.replicate (pw n) 0) k := ⟨_, rfl⟩
      rw [← hL0] at hR0 hN0
      have HL0 := Lib.hid hL0
      clear hM2 hL0
      go_wp2
      go_loopw [9] (fun i wr => ∃ j : Nat, j ≤ pw n ∧ i = .int .i64 j ∧ MkI w wr (some ⟨g, 0, none⟩) (pw n) (pw n) (addRow P sq (fun _ _ => true) xs ys k L0 j) ∧ Blk wr w.heap.size 28 #[.int .i64 P, .slice A n c]) (fun i _ => pw n - (intOf i).toNat)
      case atStart => exact ⟨0, by omega, rfl, hR0, hk2⟩
      case round =>
        clear hR0 hk2
        obtain ⟨j, hj, rfl, hM3, hk3⟩ := hrel
        have hcx : wr.cell? ⟨gx, ox + k, none⟩ = some (.int .i64 xs[k]) := (hM3.b.cell (World.block_lt_of_cell? _ _ HCW.out)).trans HCW.out
        by_cases hlj : j < pw n
        · obtain ⟨gy, oy, hY, hyj, hcyw⟩ := hy.int hlj
          subst hY
          have hgy := World.block_lt_of_cell? _ _ hcyw
          have HGY : Hid (g ≠ gy) := Lib.hid (by simp at hgy; omega)
          have hcy : wr.cell? ⟨gy, oy + j, none⟩ = some (.int .i64 ys[j]) := (hM3.b.cell (World.block_lt_of_cell? _ _ hcyw)).trans hcyw
          clear hcyw hgy
          obtain ⟨y1, y2⟩ := hys _ (List.getElem_mem hyj)
          have hyn : Hid (ys.getD j 0 = ys[j]) := Lib.hid (by rw [List.getD_eq_getElem?_getD, List.getElem?_eq_getElem hyj]; rfl)
          cases h0 : (xs[k] != 0)
          · have hz : xs.getD k 0 = 0 := by rw [hxn.out]; simpa using h0
            have HM := Lib.hid hM3
            clear hM3
            go_wp2
            go_roundw
            case rel => exact ⟨k + 1, by omega, by go_num, by rw [addRows_succ, addRow_zero _ _ _ _ _ _ _ _ hz, ← HL0.out]; have := HM.out; rwa [addRow_zero _ _ _ _ _ _ _ _ hz] at this, hk3⟩
            case measure => simp [intOf]; omega
          · cases h1 : (ys[j] != 0)
            · have hz : Hid (ys.getD j 0 = 0) := Lib.hid (by rw [hyn.out]; simpa using h1)
              go_wp2
              go_roundw
              case rel => exact ⟨j + 1, by omega, by go_num, by rw [addRow_succ]; unfold addPair; rw [if_neg (fun hh => hh.2.1 hz.out)]; exact hM3, hk3⟩
              case measure => simp [intOf]; omega
            · have hidx : k ^^^ j < pw n := xor_lt hlt hlj
              have hxo := xor_all k (by omega) j (by omega)
              have hvb := (addRow_nums sq (fun _ _ => true) xs ys k j (by omega) hN0).getD (by omega) (k ^^^ j)
              obtain ⟨hoc, hof⟩ := mkI_at hM3.drew hidx
              obtain ⟨v0, hv0⟩ : ∃ v, v = (addRow P sq (fun _ _ => true) xs ys k L0 j).getD (k ^^^ j) 0 := ⟨_, rfl⟩
              rw [← hv0] at hvb hoc
              obtain ⟨v1, v2⟩ := hvb
              have HV0 := Lib.hid hv0
              have hAt : Hid (∀ w', MkI w w' (some ⟨g, 0, none⟩) (pw n) (pw n) (addRow P sq (fun _ _ => true) xs ys k L0 j) → w'.cell? ⟨g, k ^^^ j, none⟩ = some (.int .i64 v0) ∧ w'.frozen? ⟨g, k ^^^ j, none⟩ = false) :=
                Lib.hid (fun w' h => by rw [HV0.out]; exact mkI_at h hidx)
              clear hv0
              obtain ⟨f1, f2⟩ := fac_bound P sq k j hp
              obtain ⟨m1, m2⟩ := mul_small x1 (show xs[k] ≤ 13 by omega) y1 (show ys[j] ≤ 13 by omega)
              obtain ⟨r1, r2⟩ := emod_small (xs[k] * ys[j]) P (by omega)
              obtain ⟨m3, m4⟩ := mul_small r1 (show xs[k] * ys[j] % P ≤ 13 by omega) f1 (show fac P sq k j ≤ 13 by omega)
              have HNE : Hid (g ≠ w.heap.size ∧ g ≠ w.heap.size ∧ g ≠ gx ∧ g ≠ gy) := Lib.hid ⟨by omega, by omega, HGX.out, HGY.out⟩
              have hF : Hid (∀ w', MkI w w' (some ⟨g, 0, none⟩) (pw n) (pw n) (addRow P sq (fun _ _ => true) xs ys k L0 j) → Calls Tryz.prog 100 #[.agg #[.int .i64 P, .slice A n c], .int .i64 k, .int .i64 j] w' fun e w'' => e = .returned (.int .i64 (fac P sq k j)) ∧ Below w'.heap.size w' w'') :=
                Lib.hid (fun w' h => l04Blades_any P A n c sq k j w' hp hp2 hn (ha.below h.b) hs (by omega) (by omega))
              have HPair : Hid (xs.getD k 0 ≠ 0 ∧ ys.getD j 0 ≠ 0 ∧ true = true) := Lib.hid ⟨by rw [hxn.out]; simpa using h0, by rw [hyn.out]; simpa using h1, rfl⟩
              have W1 := i64_fit (xs[k] * ys[j]) (by omega) (by omega)
              have W2 := i64_fit (xs[k] * ys[j] % P * fac P sq k j) (by omega) (by omega)
              have W3 := i64_fit (v0 + xs[k] * ys[j] % P * fac P sq k j) (by omega) (by omega)
              have T1 := Int.tmod_eq_emod_of_nonneg (b := P) m1
              have T2 := Int.tmod_eq_emod_of_nonneg (a := (v0 + xs[k] * ys[j] % P * fac P sq k j)) (b := P) (by omega)
              obtain ⟨kc0, kc1⟩ := hk3.two
              have hoc2 : wr.cell? ⟨g, k ^^^ j, none⟩ = some (.int .i64 v0) := hoc
              have hof2 : wr.frozen? ⟨g, k ^^^ j, none⟩ = false := hof
              have hP0 : (P == 0) = false := by simp; omega
              have hP1 : (P == -1) = false := by simp; omega
              have hP2 : ¬ P = 0 := by omega
              have hO := hM3.drew
              have hk4 := hk3.drew
              go_wp2
              have i1 : (0 : Int) ≤ ((k ^^^ j : Nat) : Int) := by omega
              have i2 : ((k ^^^ j : Nat) : Int) < ((pw n : Nat) : Int) := by omega
              have i3 : (0 : Int) ≤ (k : Int) := by omega
              have i4 : (k : Int) < ((pw n : Nat) : Int) := by omega
              have i5 : (0 : Int) ≤ (j : Int) := by omega
              have i6 : (j : Int) < ((pw n : Nat) : Int) := by omega
              refine wp_obs 32 [[], [], [], [1, 2], [], [], [], [5, 6], [4, 5, 6, 7], [4, 5, 6, 7, 8], [], [], [10, 11], [10, 11, 12], [], [], [14, 15], [14, 15, 16], [10, 11, 12, 13, 14, 15, 16, 17], [], [19], [10, 11, 12, 13, 14, 15, 16, 17, 18, 19, 20], [], [], [], [22, 23, 24], [10, 11, 12, 13, 14, 15, 16, 17, 18, 19, 20, 21, 22, 23, 24, 25], [4, 5, 6, 7, 8, 9, 10, 11, 12, 13, 14, 15, 16, 17, 18, 19, 20, 21, 22, 23, 24, 25, 26], [], [28], [4, 5, 6, 7, 8, 9, 10, 11, 12, 13, 14, 15, 16, 17, 18, 19, 20, 21, 22, 23, 24, 25, 26, 27, 28, 29], [0, 1, 2, 3], [0, 1, 2, 3, 4, 5, 6, 7, 8, 9, 10, 11, 12, 13, 14, 15, 16, 17, 18, 19, 20, 21, 22, 23, 24, 25, 26, 27, 28, 29, 30, 31]] [VIs (.slice (some ⟨g, 0, none⟩) (pw n) (pw n)), VIs (.int .i64 (k)), VIs (.int .i64 (j)), VIs (.int .i64 ((k ^^^ j : Nat))), VIs (.slice (some ⟨g, 0, none⟩) (pw n) (pw n)), VIs (.int .i64 (k)), VIs (.int .i64 (j)), VIs (.int .i64 ((k ^^^ j : Nat))), VIs (.pointer (some ⟨g, k ^^^ j, none⟩)), VIs (.int .i64 (v0)), VIs (.slice (some ⟨gx, ox, none⟩) (pw n) cx), VIs (.int .i64 (k)), VIs (.pointer (some ⟨gx, ox + k, none⟩)), VIs (.int .i64 (xs[k])), VIs (.slice (some ⟨gy, oy, none⟩) (pw n) cy), VIs (.int .i64 (j)), VIs (.pointer (some ⟨gy, oy + j, none⟩)), VIs (.int .i64 (ys[j])), VIs (.int .i64 (xs[k] * ys[j])), VIs (.pointer (some ⟨w.heap.size, 0, none⟩)), VIs (.int .i64 (P)), VIs (.int .i64 (xs[k] * ys[j] % P)), VIs (.agg #[.int .i64 P, .slice A n c]), VIs (.int .i64 (k)), VIs (.int .i64 (j)), VIs (.int .i64 (fac P sq k j)), VIs (.int .i64 (xs[k] * ys[j] % P * fac P sq k j)), VIs (.int .i64 (v0 + xs[k] * ys[j] % P * fac P sq k j)), VIs (.pointer (some ⟨w.heap.size, 0, none⟩)), VIs (.int .i64 (P)), VIs (.int .i64 ((v0 + xs[k] * ys[j] % P * fac P sq k j) % P)), VIs (.pointer (some ⟨g, k ^^^ j, none⟩))] (fun w' => Blk w' w.heap.size 28 #[.int .i64 P, .slice A n c] ∧ MkI w w' (some ⟨g, 0, none⟩) (pw n) (pw n) (addRow P sq (fun _ _ => true) xs ys k L0 j) ∧ w'.cell? ⟨gx, ox + k, none⟩ = some (.int .i64 xs[k]) ∧ w'.cell? ⟨gy, oy + j, none⟩ = some (.int .i64 ys[j])) (by kernel_rfl) (by kernel_rfl) (fun _ _ h hb => ⟨h.1.below hb h.1.lt, h.2.1.below hb, (hb.cell (World.block_lt_of_cell? _ _ h.2.2.1)).trans h.2.2.1, (hb.cell (World.block_lt_of_cell? _ _ h.2.2.2)).trans h.2.2.2⟩) (⟨hk4, hO, hcx, hcy⟩) (fun x => ?_)
              refine obs_step (Eq.trans (by simp only [List.getElem?_toArray, List.getElem?_cons_zero]; exact rfl) rfl) rfl (fun w' hS hV K hK => ?_) ?_
              · obtain ⟨q0, q1⟩ := hS.1.two; obtain ⟨hoc, hof⟩ := hAt.out _ hS.2.1; have q2 := hS.2.2.1; have q3 := hS.2.2.2
                go_simp
                exact hK.out _ _ _ rfl rfl rfl (Below.refl _ _)
              simp only [List.setIfInBounds_toArray, List.set_cons_zero, List.set_cons_succ]
              refine obs_step (Eq.trans (by simp only [List.getElem?_toArray, List.getElem?_cons_succ, List.getElem?_cons_zero]; exact rfl) rfl) rfl (fun w' hS hV K hK => ?_) ?_
              · obtain ⟨q0, q1⟩ := hS.1.two; obtain ⟨hoc, hof⟩ := hAt.out _ hS.2.1; have q2 := hS.2.2.1; have q3 := hS.2.2.2
                go_simp
                exact hK.out _ _ _ rfl rfl rfl (Below.refl _ _)
              simp only [List.setIfInBounds_toArray, List.set_cons_zero, List.set_cons_succ]
              refine obs_step (Eq.trans (by simp only [List.getElem?_toArray, List.getElem?_cons_succ, List.getElem?_cons_zero]; exact rfl) rfl) rfl (fun w' hS hV K hK => ?_) ?_
              · obtain ⟨q0, q1⟩ := hS.1.two; obtain ⟨hoc, hof⟩ := hAt.out _ hS.2.1; have q2 := hS.2.2.1; have q3 := hS.2.2.2
                go_simp
                exact hK.out _ _ _ rfl rfl rfl (Below.refl _ _)
              simp only [List.setIfInBounds_toArray, List.set_cons_zero, List.set_cons_succ]
              refine obs_step (Eq.trans (by simp only [List.getElem?_toArray, List.getElem?_cons_succ, List.getElem?_cons_zero]; exact rfl) rfl) rfl (fun w' hS hV K hK => ?_) ?_
              · simp only [List.mem_cons, List.not_mem_nil, or_false, forall_eq_or_imp, forall_eq, List.getD_cons_succ, List.getD_cons_zero, VIs, VAny] at hV
                obtain ⟨e1, e2⟩ := hV
                obtain ⟨q0, q1⟩ := hS.1.two; obtain ⟨hoc, hof⟩ := hAt.out _ hS.2.1; have q2 := hS.2.2.1; have q3 := hS.2.2.2
                go_simp
                exact hK.out _ _ _ rfl rfl rfl (Below.refl _ _)
              simp only [List.setIfInBounds_toArray, List.set_cons_zero, List.set_cons_succ]
              refine obs_step (Eq.trans (by simp only [List.getElem?_toArray, List.getElem?_cons_succ, List.getElem?_cons_zero]; exact rfl) rfl) rfl (fun w' hS hV K hK => ?_) ?_
              · obtain ⟨q0, q1⟩ := hS.1.two; obtain ⟨hoc, hof⟩ := hAt.out _ hS.2.1; have q2 := hS.2.2.1; have q3 := hS.2.2.2
                go_simp
                exact hK.out _ _ _ rfl rfl rfl (Below.refl _ _)
              simp only [List.setIfInBounds_toArray, List.set_cons_zero, List.set_cons_succ]
              refine obs_step (Eq.trans (by simp only [List.getElem?_toArray, List.getElem?_cons_succ, List.getElem?_cons_zero]; exact rfl) rfl) rfl (fun w' hS hV K hK => ?_) ?_
              · obtain ⟨q0, q1⟩ := hS.1.two; obtain ⟨hoc, hof⟩ := hAt.out _ hS.2.1; have q2 := hS.2.2.1; have q3 := hS.2.2.2
                go_simp
                exact hK.out _ _ _ rfl rfl rfl (Below.refl _ _)
              simp only [List.setIfInBounds_toArray, List.set_cons_zero, List.set_cons_succ]
              refine obs_step (Eq.trans (by simp only [List.getElem?_toArray, List.getElem?_cons_succ, List.getElem?_cons_zero]; exact rfl) rfl) rfl (fun w' hS hV K hK => ?_) ?_
              · obtain ⟨q0, q1⟩ := hS.1.two; obtain ⟨hoc, hof⟩ := hAt.out _ hS.2.1; have q2 := hS.2.2.1; have q3 := hS.2.2.2
                go_simp
                exact hK.out _ _ _ rfl rfl rfl (Below.refl _ _)
              simp only [List.setIfInBounds_toArray, List.set_cons_zero, List.set_cons_succ]
              refine obs_step (Eq.trans (by simp only [List.getElem?_toArray, List.getElem?_cons_succ, List.getElem?_cons_zero]; exact rfl) rfl) rfl (fun w' hS hV K hK => ?_) ?_
              · simp only [List.mem_cons, List.not_mem_nil, or_false, forall_eq_or_imp, forall_eq, List.getD_cons_succ, List.getD_cons_zero, VIs, VAny] at hV
                obtain ⟨e5, e6⟩ := hV
                obtain ⟨q0, q1⟩ := hS.1.two; obtain ⟨hoc, hof⟩ := hAt.out _ hS.2.1; have q2 := hS.2.2.1; have q3 := hS.2.2.2
                go_simp
                exact hK.out _ _ _ rfl rfl rfl (Below.refl _ _)
              simp only [List.setIfInBounds_toArray, List.set_cons_zero, List.set_cons_succ]
              refine obs_step (Eq.trans (by simp only [List.getElem?_toArray, List.getElem?_cons_succ, List.getElem?_cons_zero]; exact rfl) rfl) rfl (fun w' hS hV K hK => ?_) ?_
              · simp only [List.mem_cons, List.not_mem_nil, or_false, forall_eq_or_imp, forall_eq, List.getD_cons_succ, List.getD_cons_zero, VIs, VAny] at hV
                obtain ⟨e4, e5, e6, e7⟩ := hV
                obtain ⟨q0, q1⟩ := hS.1.two; obtain ⟨hoc, hof⟩ := hAt.out _ hS.2.1; have q2 := hS.2.2.1; have q3 := hS.2.2.2
                go_simp
                exact hK.out _ _ _ rfl rfl rfl (Below.refl _ _)
              simp only [List.setIfInBounds_toArray, List.set_cons_zero, List.set_cons_succ]
              refine obs_step (Eq.trans (by simp only [List.getElem?_toArray, List.getElem?_cons_succ, List.getElem?_cons_zero]; exact rfl) rfl) rfl (fun w' hS hV K hK => ?_) ?_
              · simp only [List.mem_cons, List.not_mem_nil, or_false, forall_eq_or_imp, forall_eq, List.getD_cons_succ, List.getD_cons_zero, VIs, VAny] at hV
                obtain ⟨e4, e5, e6, e7, e8⟩ := hV
                obtain ⟨q0, q1⟩ := hS.1.two; obtain ⟨hoc, hof⟩ := hAt.out _ hS.2.1; have q2 := hS.2.2.1; have q3 := hS.2.2.2
                go_simp
                exact hK.out _ _ _ rfl rfl rfl (Below.refl _ _)
              simp only [List.setIfInBounds_toArray, List.set_cons_zero, List.set_cons_succ]
              refine obs_step (Eq.trans (by simp only [List.getElem?_toArray, List.getElem?_cons_succ, List.getElem?_cons_zero]; exact rfl) rfl) rfl (fun w' hS hV K hK => ?_) ?_
              · obtain ⟨q0, q1⟩ := hS.1.two; obtain ⟨hoc, hof⟩ := hAt.out _ hS.2.1; have q2 := hS.2.2.1; have q3 := hS.2.2.2
                go_simp
                exact hK.out _ _ _ rfl rfl rfl (Below.refl _ _)
              simp only [List.setIfInBounds_toArray, List.set_cons_zero, List.set_cons_succ]
              refine obs_step (Eq.trans (by simp only [List.getElem?_toArray, List.getElem?_cons_succ, List.getElem?_cons_zero]; exact rfl) rfl) rfl (fun w' hS hV K hK => ?_) ?_
              · obtain ⟨q0, q1⟩ := hS.1.two; obtain ⟨hoc, hof⟩ := hAt.out _ hS.2.1; have q2 := hS.2.2.1; have q3 := hS.2.2.2
                go_simp
                exact hK.out _ _ _ rfl rfl rfl (Below.refl _ _)
              simp only [List.setIfInBounds_toArray, List.set_cons_zero, List.set_cons_succ]
              refine obs_step (Eq.trans (by simp only [List.getElem?_toArray, List.getElem?_cons_succ, List.getElem?_cons_zero]; exact rfl) rfl) rfl (fun w' hS hV K hK => ?_) ?_
              · simp only [List.mem_cons, List.not_mem_nil, or_false, forall_eq_or_imp, forall_eq, List.getD_cons_succ, List.getD_cons_zero, VIs, VAny] at hV
                obtain ⟨e10, e11⟩ := hV
                obtain ⟨q0, q1⟩ := hS.1.two; obtain ⟨hoc, hof⟩ := hAt.out _ hS.2.1; have q2 := hS.2.2.1; have q3 := hS.2.2.2
                go_simp
                exact hK.out _ _ _ rfl rfl rfl (Below.refl _ _)
              simp only [List.setIfInBounds_toArray, List.set_cons_zero, List.set_cons_succ]
              refine obs_step (Eq.trans (by simp only [List.getElem?_toArray, List.getElem?_cons_succ, List.getElem?_cons_zero]; exact rfl) rfl) rfl (fun w' hS hV K hK => ?_) ?_
              · simp only [List.mem_cons, List.not_mem_nil, or_false, forall_eq_or_imp, forall_eq, List.getD_cons_succ, List.getD_cons_zero, VIs, VAny] at hV
                obtain ⟨e10, e11, e12⟩ := hV
                obtain ⟨q0, q1⟩ := hS.1.two; obtain ⟨hoc, hof⟩ := hAt.out _ hS.2.1; have q2 := hS.2.2.1; have q3 := hS.2.2.2
                go_simp
                exact hK.out _ _ _ rfl rfl rfl (Below.refl _ _)
              simp only [List.setIfInBounds_toArray, List.set_cons_zero, List.set_cons_succ]
              refine obs_step (Eq.trans (by simp only [List.getElem?_toArray, List.getElem?_cons_succ, List.getElem?_cons_zero]; exact rfl) rfl) rfl (fun w' hS hV K hK => ?_) ?_
              · obtain ⟨q0, q1⟩ := hS.1.two; obtain ⟨hoc, hof⟩ := hAt.out _ hS.2.1; have q2 := hS.2.2.1; have q3 := hS.2.2.2
                go_simp
                exact hK.out _ _ _ rfl rfl rfl (Below.refl _ _)
              simp only [List.setIfInBounds_toArray, List.set_cons_zero, List.set_cons_succ]
              refine obs_step (Eq.trans (by simp only [List.getElem?_toArray, List.getElem?_cons_succ, List.getElem?_cons_zero]; exact rfl) rfl) rfl (fun w' hS hV K hK => ?_) ?_
              · obtain ⟨q0, q1⟩ := hS.1.two; obtain ⟨hoc, hof⟩ := hAt.out _ hS.2.1; have q2 := hS.2.2.1; have q3 := hS.2.2.2
                go_simp
                exact hK.out _ _ _ rfl rfl rfl (Below.refl _ _)
              simp only [List.setIfInBounds_toArray, List.set_cons_zero, List.set_cons_succ]
              refine obs_step (Eq.trans (by simp only [List.getElem?_toArray, List.getElem?_cons_succ, List.getElem?_cons_zero]; exact rfl) rfl) rfl (fun w' hS hV K hK => ?_) ?_
              · simp only [List.mem_cons, List.not_mem_nil, or_false, forall_eq_or_imp, forall_eq, List.getD_cons_succ, List.getD_cons_zero, VIs, VAny] at hV
                obtain ⟨e14, e15⟩ := hV
                obtain ⟨q0, q1⟩ := hS.1.two; obtain ⟨hoc, hof⟩ := hAt.out _ hS.2.1; have q2 := hS.2.2.1; have q3 := hS.2.2.2
                go_simp
                exact hK.out _ _ _ rfl rfl rfl (Below.refl _ _)
              simp only [List.setIfInBounds_toArray, List.set_cons_zero, List.set_cons_succ]
              refine obs_step (Eq.trans (by simp only [List.getElem?_toArray, List.getElem?_cons_succ, List.getElem?_cons_zero]; exact rfl) rfl) rfl (fun w' hS hV K hK => ?_) ?_
              · simp only [List.mem_cons, List.not_mem_nil, or_false, forall_eq_or_imp, forall_eq, List.getD_cons_succ, List.getD_cons_zero, VIs, VAny] at hV
                obtain ⟨e14, e15, e16⟩ := hV
                obtain ⟨q0, q1⟩ := hS.1.two; obtain ⟨hoc, hof⟩ := hAt.out _ hS.2.1; have q2 := hS.2.2.1; have q3 := hS.2.2.2
                go_simp
                exact hK.out _ _ _ rfl rfl rfl (Below.refl _ _)
              simp only [List.setIfInBounds_toArray, List.set_cons_zero, List.set_cons_succ]
              refine obs_step (Eq.trans (by simp only [List.getElem?_toArray, List.getElem?_cons_succ, List.getElem?_cons_zero]; exact rfl) rfl) rfl (fun w' hS hV K hK => ?_) ?_
              · simp only [List.mem_cons, List.not_mem_nil, or_false, forall_eq_or_imp, forall_eq, List.getD_cons_succ, List.getD_cons_zero, VIs, VAny] at hV
                obtain ⟨e10, e11, e12, e13, e14, e15, e16, e17⟩ := hV
                obtain ⟨q0, q1⟩ := hS.1.two; obtain ⟨hoc, hof⟩ := hAt.out _ hS.2.1; have q2 := hS.2.2.1; have q3 := hS.2.2.2
                go_simp
                exact hK.out _ _ _ rfl rfl rfl (Below.refl _ _)
              simp only [List.setIfInBounds_toArray, List.set_cons_zero, List.set_cons_succ]
              refine obs_step (Eq.trans (by simp only [List.getElem?_toArray, List.getElem?_cons_succ, List.getElem?_cons_zero]; exact rfl) rfl) rfl (fun w' hS hV K hK => ?_) ?_
              · obtain ⟨q0, q1⟩ := hS.1.two; obtain ⟨hoc, hof⟩ := hAt.out _ hS.2.1; have q2 := hS.2.2.1; have q3 := hS.2.2.2
                go_simp
                exact hK.out _ _ _ rfl rfl rfl (Below.refl _ _)
              simp only [List.setIfInBounds_toArray, List.set_cons_zero, List.set_cons_succ]
              refine obs_step (Eq.trans (by simp only [List.getElem?_toArray, List.getElem?_cons_succ, List.getElem?_cons_zero]; exact rfl) rfl) rfl (fun w' hS hV K hK => ?_) ?_
              · simp only [List.mem_cons, List.not_mem_nil, or_false, forall_eq, List.getD_cons_succ, List.getD_cons_zero, VIs, VAny] at hV
                obtain e19 := hV
                obtain ⟨q0, q1⟩ := hS.1.two; obtain ⟨hoc, hof⟩ := hAt.out _ hS.2.1; have q2 := hS.2.2.1; have q3 := hS.2.2.2
                go_simp
                exact hK.out _ _ _ rfl rfl rfl (Below.refl _ _)
              simp only [List.setIfInBounds_toArray, List.set_cons_zero, List.set_cons_succ]
              refine obs_step (Eq.trans (by simp only [List.getElem?_toArray, List.getElem?_cons_succ, List.getElem?_cons_zero]; exact rfl) rfl) rfl (fun w' hS hV K hK => ?_) ?_
              · simp only [List.mem_cons, List.not_mem_nil, or_false, forall_eq_or_imp, forall_eq, List.getD_cons_succ, List.getD_cons_zero, VIs, VAny] at hV
                obtain ⟨e10, e11, e12, e13, e14, e15, e16, e17, e18, e19, e20⟩ := hV
                obtain ⟨q0, q1⟩ := hS.1.two; obtain ⟨hoc, hof⟩ := hAt.out _ hS.2.1; have q2 := hS.2.2.1; have q3 := hS.2.2.2
                go_simp
                exact hK.out _ _ _ rfl rfl rfl (Below.refl _ _)
              simp only [List.setIfInBounds_toArray, List.set_cons_zero, List.set_cons_succ]
              refine obs_step (Eq.trans (by simp only [List.getElem?_toArray, List.getElem?_cons_succ, List.getElem?_cons_zero]; exact rfl) rfl) rfl (fun w' hS hV K hK => ?_) ?_
              · obtain ⟨q0, q1⟩ := hS.1.two; obtain ⟨hoc, hof⟩ := hAt.out _ hS.2.1; have q2 := hS.2.2.1; have q3 := hS.2.2.2
                go_simp
                exact hK.out _ _ _ rfl rfl rfl (Below.refl _ _)
              simp only [List.setIfInBounds_toArray, List.set_cons_zero, List.set_cons_succ]
              refine obs_step (Eq.trans (by simp only [List.getElem?_toArray, List.getElem?_cons_succ, List.getElem?_cons_zero]; exact rfl) rfl) rfl (fun w' hS hV K hK => ?_) ?_
              · obtain ⟨q0, q1⟩ := hS.1.two; obtain ⟨hoc, hof⟩ := hAt.out _ hS.2.1; have q2 := hS.2.2.1; have q3 := hS.2.2.2
                go_simp
                exact hK.out _ _ _ rfl rfl rfl (Below.refl _ _)
              simp only [List.setIfInBounds_toArray, List.set_cons_zero, List.set_cons_succ]
              refine obs_step (Eq.trans (by simp only [List.getElem?_toArray, List.getElem?_cons_succ, List.getElem?_cons_zero]; exact rfl) rfl) rfl (fun w' hS hV K hK => ?_) ?_
              · obtain ⟨q0, q1⟩ := hS.1.two; obtain ⟨hoc, hof⟩ := hAt.out _ hS.2.1; have q2 := hS.2.2.1; have q3 := hS.2.2.2
                go_simp
                exact hK.out _ _ _ rfl rfl rfl (Below.refl _ _)
              simp only [List.setIfInBounds_toArray, List.set_cons_zero, List.set_cons_succ]
              refine obs_step (Eq.trans (by simp only [List.getElem?_toArray, List.getElem?_cons_succ, List.getElem?_cons_zero]; exact rfl) rfl) rfl (fun w' hS hV K hK => ?_) ?_
              · simp only [List.mem_cons, List.not_mem_nil, or_false, forall_eq_or_imp, forall_eq, List.getD_cons_succ, List.getD_cons_zero, VIs, VAny] at hV
                obtain ⟨e22, e23, e24⟩ := hV
                obtain ⟨q0, q1⟩ := hS.1.two; obtain ⟨hoc, hof⟩ := hAt.out _ hS.2.1; have q2 := hS.2.2.1; have q3 := hS.2.2.2
                go_simp
                refine (hF.out _ hS.2.1).mono ?_
                rintro e v1 ⟨rfl, hb⟩
                exact hK.out _ _ _ rfl rfl rfl hb
              simp only [List.setIfInBounds_toArray, List.set_cons_zero, List.set_cons_succ]
              refine obs_step (Eq.trans (by simp only [List.getElem?_toArray, List.getElem?_cons_succ, List.getElem?_cons_zero]; exact rfl) rfl) rfl (fun w' hS hV K hK => ?_) ?_
              · simp only [List.mem_cons, List.not_mem_nil, or_false, forall_eq_or_imp, forall_eq, List.getD_cons_succ, List.getD_cons_zero, VIs, VAny] at hV
                obtain ⟨e10, e11, e12, e13, e14, e15, e16, e17, e18, e19, e20, e21, e22, e23, e24, e25⟩ := hV
                obtain ⟨q0, q1⟩ := hS.1.two; obtain ⟨hoc, hof⟩ := hAt.out _ hS.2.1; have q2 := hS.2.2.1; have q3 := hS.2.2.2
                go_simp
                exact hK.out _ _ _ rfl rfl rfl (Below.refl _ _)
              simp only [List.setIfInBounds_toArray, List.set_cons_zero, List.set_cons_succ]
              refine obs_step (Eq.trans (by simp only [List.getElem?_toArray, List.getElem?_cons_succ, List.getElem?_cons_zero]; exact rfl) rfl) rfl (fun w' hS hV K hK => ?_) ?_
              · simp only [List.mem_cons, List.not_mem_nil, or_false, forall_eq_or_imp, forall_eq, List.getD_cons_succ, List.getD_cons_zero, VIs, VAny] at hV
                obtain ⟨e4, e5, e6, e7, e8, e9, e10, e11, e12, e13, e14, e15, e16, e17, e18, e19, e20, e21, e22, e23, e24, e25, e26⟩ := hV
                obtain ⟨q0, q1⟩ := hS.1.two; obtain ⟨hoc, hof⟩ := hAt.out _ hS.2.1; have q2 := hS.2.2.1; have q3 := hS.2.2.2
                go_simp
                exact hK.out _ _ _ rfl rfl rfl (Below.refl _ _)
              simp only [List.setIfInBounds_toArray, List.set_cons_zero, List.set_cons_succ]
              refine obs_step (Eq.trans (by simp only [List.getElem?_toArray, List.getElem?_cons_succ, List.getElem?_cons_zero]; exact rfl) rfl) rfl (fun w' hS hV K hK => ?_) ?_
              · obtain ⟨q0, q1⟩ := hS.1.two; obtain ⟨hoc, hof⟩ := hAt.out _ hS.2.1; have q2 := hS.2.2.1; have q3 := hS.2.2.2
                go_simp
                exact hK.out _ _ _ rfl rfl rfl (Below.refl _ _)
              simp only [List.setIfInBounds_toArray, List.set_cons_zero, List.set_cons_succ]
              refine obs_step (Eq.trans (by simp only [List.getElem?_toArray, List.getElem?_cons_succ, List.getElem?_cons_zero]; exact rfl) rfl) rfl (fun w' hS hV K hK => ?_) ?_
              · simp only [List.mem_cons, List.not_mem_nil, or_false, forall_eq, List.getD_cons_succ, List.getD_cons_zero, VIs, VAny] at hV
                obtain e28 := hV
                obtain ⟨q0, q1⟩ := hS.1.two; obtain ⟨hoc, hof⟩ := hAt.out _ hS.2.1; have q2 := hS.2.2.1; have q3 := hS.2.2.2
                go_simp
                exact hK.out _ _ _ rfl rfl rfl (Below.refl _ _)
              simp only [List.setIfInBounds_toArray, List.set_cons_zero, List.set_cons_succ]
              refine obs_step (Eq.trans (by simp only [List.getElem?_toArray, List.getElem?_cons_succ, List.getElem?_cons_zero]; exact rfl) rfl) rfl (fun w' hS hV K hK => ?_) ?_
              · simp only [List.mem_cons, List.not_mem_nil, or_false, forall_eq_or_imp, forall_eq, List.getD_cons_succ, List.getD_cons_zero, VIs, VAny] at hV
                obtain ⟨e4, e5, e6, e7, e8, e9, e10, e11, e12, e13, e14, e15, e16, e17, e18, e19, e20, e21, e22, e23, e24, e25, e26, e27, e28, e29⟩ := hV
                obtain ⟨q0, q1⟩ := hS.1.two; obtain ⟨hoc, hof⟩ := hAt.out _ hS.2.1; have q2 := hS.2.2.1; have q3 := hS.2.2.2
                go_simp
                exact hK.out _ _ _ rfl rfl rfl (Below.refl _ _)
              simp only [List.setIfInBounds_toArray, List.set_cons_zero, List.set_cons_succ]
              refine obs_step (Eq.trans (by simp only [List.getElem?_toArray, List.getElem?_cons_succ, List.getElem?_cons_zero]; exact rfl) rfl) rfl (fun w' hS hV K hK => ?_) ?_
              · simp only [List.mem_cons, List.not_mem_nil, or_false, forall_eq_or_imp, forall_eq, List.getD_cons_succ, List.getD_cons_zero, VIs, VAny] at hV
                obtain ⟨e0, e1, e2, e3⟩ := hV
                obtain ⟨q0, q1⟩ := hS.1.two; obtain ⟨hoc, hof⟩ := hAt.out _ hS.2.1; have q2 := hS.2.2.1; have q3 := hS.2.2.2
                go_simp
                exact hK.out _ _ _ rfl rfl rfl (Below.refl _ _)
              simp only [List.setIfInBounds_toArray, List.set_cons_zero, List.set_cons_succ]
              refine fun w' hS hV => ?_
              have hV := fun i hi => hV i (List.mem_range.1 hi)
              simp only [List.range, List.range.loop, List.mem_cons, List.not_mem_nil, or_false, forall_eq_or_imp, forall_eq, List.getD_cons_succ, List.getD_cons_zero, VIs, VAny] at hV
              obtain ⟨e0, e1, e2, e3, e4, e5, e6, e7, e8, e9, e10, e11, e12, e13, e14, e15, e16, e17, e18, e19, e20, e21, e22, e23, e24, e25, e26, e27, e28, e29, e30, e31⟩ := hV
              simp only [e0, e1, e2, e3, e4, e5, e6, e7, e8, e9, e10, e11, e12, e13, e14, e15, e16, e17, e18, e19, e20, e21, e22, e23, e24, e25, e26, e27, e28, e29, e30, e31]
              clear e0 e1 e2 e3 e4 e5 e6 e7 e8 e9 e10 e11 e12 e13 e14 e15 e16 e17 e18 e19 e20 e21 e22 e23 e24 e25 e26 e27 e28 e29 e30 e31
              obtain ⟨hk4, hO, s3, s4⟩ := hS
              obtain ⟨hoc, hof⟩ := hAt.out _ hO
              refine any_one (j := 32) (by kernel_rfl) (Eq.trans (by simp only [List.getElem?_toArray, List.getElem?_cons_succ, List.getElem?_cons_zero]; exact rfl) rfl) (fun K hK => ?_)
              go_simp
              refine hK.out _ _ (wpAny_done (by kernel_rfl) ?_ _)
              have hset := (hO.set (k ^^^ j) (.int .i64 ((v0 + xs[k] * ys[j] % P * fac P sq k j) % P))).1
              rw [ints_set] at hset
              have hkn := hk4.far (p := ⟨g, k ^^^ j, none⟩) HNE.out.1.symm (.int .i64 ((v0 + xs[k] * ys[j] % P * fac P sq k j) % P))
              clear W1 W2 W3 T1 T2 hoc hof hO hk4
              go_wp2
              go_roundw
              case rel => exact ⟨j + 1, by omega, by go_num, by rw [addRow_succ]; unfold addPair; rw [if_pos ⟨HPair.out.1, HPair.out.2.1, rfl⟩, ← HV0.out, hxn.out, hyn.out, ← mod_mul_add v0 (xs[k] * ys[j]) (fac P sq k j) P]; exact hset, hkn⟩
              case measure => simp [intOf]; omega
        · obtain rfl : j = pw n := by omega
          have HM := Lib.hid hM3
          clear hM3
          go_wp2
          go_roundw
          case rel => exact ⟨k + 1, by omega, by go_num, by rw [addRows_succ, Hy.out, ← HL0.out]; exact HM.out, hk3⟩
          case measure => simp [intOf]; omega
    · obtain rfl : k = pw n := by omega
      go_wp2
      go_ret
      exact ⟨_, _, rfl, by unfold prodL; rw [Hx.out]; exact hM2⟩

end Go.Proofs.YtommppijnccomaaGreat
