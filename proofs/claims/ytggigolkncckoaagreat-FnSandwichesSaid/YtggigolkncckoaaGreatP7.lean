/-
  LawFnSandwiches: part 7 of the texts that the proof needs. No condition.
-/
import Derived.Test.YtggigolkncckoaaGreatP6
namespace Go.Proofs.YtggigolkncckoaaGreat
open Go.RowKit
theorem l01Same_b {b : Bool} (A B : Option Addr) (n m c d : Nat) (xs ys : List Int) (w : World) (hn : n ≤ 1099511627776) (hm : m ≤ 1099511627776) (ha : Rd w A n (ints xs)) (hb : Rd w B m (ints ys)) (h : decide (xs = ys) = b) :
    Calls Tryz.prog 308 #[.slice A n c, .slice B m d] w fun e w' => e = .returned (.bool b) ∧ ∃ j, w' = w.drewN j := h ▸ l01Same_any A B n m c d xs ys w hn hm ha hb
set_option maxHeartbeats 3200000 in
set_option maxRecDepth 8000 in
theorem l07Is_A (P : Int) (A : Option Addr) (n c : Nat) (sq : List Int) (X : Option Addr) (cx : Nat) (xs : List Int) (w : World) (hp : 2 ≤ P) (hp2 : P ≤ 13) (hn : n ≤ 6) (ha : Rd w A n (ints sq)) (hs : NumsL P sq) (hx : Rd w X (pw n) (ints xs)) (hxs : NumsL P xs) (_hcx : pw n ≤ cx) (_HP : isP P = true) (h1 : nrmL P sq xs = 0) :
    Calls Tryz.prog 184 #[.agg #[.int .i64 P, .slice A n c], .slice X (pw n) cx] w fun e w' => e = .returned (.bool (versB P sq n xs)) ∧ Below w.heap.size w w' := by
  have hB0 : Below w.heap.size w (w.alloc (.cells #[.int .i64 P, .slice A n c] 26)) := (Below.refl _ _).alloc (Nat.le_refl _) _
  have k0 : Blk (w.alloc (.cells #[.int .i64 P, .slice A n c] 26)) w.heap.size 26 #[.int .i64 P, .slice A n c] := Blk.new _ _ _
  have HPW : pw n ≤ 65536 := Nat.le_trans (pw_le (show n ≤ 10 by omega)) (by decide)
  have HPW64 : pw n ≤ 64 := pw_le hn
  have HNN := mulL_nums (show 0 < P by omega) sq xs (revL P xs)
  have HSC : Hid (decide (mulL P sq xs (revL P xs) = scaleL P (bladeL n 0) (nrmL P sq xs)) = onlyL (mulL P sq xs (revL P xs)) 0) := Lib.hid (onlyL_scalar hp hn (by rw [mulL_len, hx.lenI]) HNN)
  have HEV := Lib.hid (evnV_neg (gs := gradesL xs) fun g hg => (gradesL_range xs g hg).1)
  have b1 : (nrmL P sq xs == 0) = true := by rw [h1]; rfl
  have H1 := Lib.hid b1
  clear h1
  go_enter Tryz.func184, Tryz.ntmps184
  go_wp2_with fail
  refine (l04Reverse_any P A n c X (pw n) cx xs _ hp hp2 HPW64 (hx.below hB0) hxs).mono ?_
  rintro e w1 ⟨Bk, cB, rfl, hBk⟩
  have hB1 := hB0.trans (hBk.b.mono (by simp))
  have k1 := k0.below hBk.b k0.lt
  obtain ⟨q0, q1⟩ := k1.two
  clear k0 hB0
  go_wp2_with fail
  refine (l04Times_any P A n c sq X cx xs Bk cB _ _ hp hp2 hn (ha.below hB1) hs (hx.below hB1) hxs hBk.rd (sgnL_nums (by omega) revT hxs)).mono ?_
  rintro e w2 ⟨N, cN, rfl, hN⟩
  have hB2 := hB1.trans (hN.b.mono hB1.size)
  have k2 := k1.below hN.b k1.lt
  have hBk2 := hBk.below hN.b
  rcases hN.2.form with ⟨_, hz⟩ | ⟨gN, hgN, _, _⟩
  · exact absurd hz (by have := pw_pos n; omega)
  subst hgN
  clear q0 q1 k1 hB1 hBk
  go_wp2
  refine wp_obs 23 [[], [0], [0, 1], [0, 1, 2], [0, 1, 2, 3], [0, 1, 2, 3, 4], [0, 1, 2, 3, 4], [0, 1, 2, 3, 4, 6], [0, 1, 2, 3, 4], [0, 1, 2, 3, 4, 8], [0, 1, 2, 3, 4], [0, 1, 2, 3, 4, 10], [0, 1, 2, 3, 4, 10, 11], [0, 1, 2, 3, 4, 6, 7, 8, 9, 10, 11, 12], [0, 1, 2, 3, 4, 5, 6, 7, 8, 9, 10, 11, 12, 13], [0, 1, 2, 3, 4, 5, 6, 7, 8, 9, 10, 11, 12, 13, 14], [0, 1, 2, 3, 4, 5, 6, 7, 8, 9, 10, 11, 12, 13, 14, 15], [0, 1, 2, 3, 4, 5, 6, 7, 8, 9, 10, 11, 12, 13, 14, 15, 16], [0, 1, 2, 3, 4, 5, 6, 7, 8, 9, 10, 11, 12, 13, 14, 15, 16, 17], [0, 1, 2, 3, 4, 5, 6, 7, 8, 9, 10, 11, 12, 13, 14, 15, 16, 17], [0, 1, 2, 3, 4, 5, 6, 7, 8, 9, 10, 11, 12, 13, 14, 15, 16, 17, 18, 19], [0, 1, 2, 3, 4, 5, 6, 7, 8, 9, 10, 11, 12, 13, 14, 15, 16, 17, 18, 19, 20], [0, 1, 2, 3, 4, 5, 6, 7, 8, 9, 10, 11, 12, 13, 14, 15, 16, 17, 18, 19, 20, 21]] [VIs (.slice (some ⟨gN, 0, none⟩) (pw n) cN), VIs (.pointer (some ⟨gN, 0, none⟩)), VIs (.int .i64 (nrmL P sq xs)), VIs (.bool true), VIs (.bool true), VIs undef, VIs undef, VIs undef, VIs undef, VIs undef, VIs undef, VIs undef, VIs undef, VIs undef, VIs undef, VIs undef, VIs (.bool true), VIs (.bool true), VIs undef, VIs undef, VIs undef, VIs undef, VIs (.bool true)] (fun w' => Blk w' w.heap.size 26 #[.int .i64 P, .slice A n c] ∧ Below w.heap.size w w' ∧ Below w2.heap.size w2 w') (by kernel_rfl) (by kernel_rfl) (fun _ _ h hb => ⟨h.1.below hb h.1.lt, h.2.1.trans (hb.mono h.2.1.size), h.2.2.trans (hb.mono h.2.2.size)⟩) (⟨k2.drew, hB2.drew, (Below.refl _ _).drew⟩) (fun x => ?_)
  refine obs_step (Eq.trans (by simp only [List.getElem?_toArray, List.getElem?_cons_zero]; exact rfl) rfl) rfl (fun w' hS hV K hK => ?_) ?_
  · obtain ⟨q0, q1⟩ := hS.1.two; have hcN : w'.cell? ⟨gN, 0, none⟩ = some (.int .i64 (nrmL P sq xs)) := (mkI_at (hN.below hS.2.2) (pw_pos n)).1; have hposI : 0 < pw n := pw_pos n
    go_simp
    exact hK.out _ _ _ rfl rfl rfl (Below.refl _ _)
  simp only [List.setIfInBounds_toArray, List.set_cons_zero, List.set_cons_succ]
  refine obs_step (Eq.trans (by simp only [List.getElem?_toArray, List.getElem?_cons_succ, List.getElem?_cons_zero]; exact rfl) rfl) rfl (fun w' hS hV K hK => ?_) ?_
  · simp only [List.mem_cons, List.not_mem_nil, or_false, forall_eq, List.getD_cons_succ, List.getD_cons_zero, VIs, VAny] at hV
    obtain e0 := hV
    obtain ⟨q0, q1⟩ := hS.1.two; have hcN : w'.cell? ⟨gN, 0, none⟩ = some (.int .i64 (nrmL P sq xs)) := (mkI_at (hN.below hS.2.2) (pw_pos n)).1; have hposI : 0 < pw n := pw_pos n
    go_simp
    exact hK.out _ _ _ rfl rfl rfl (Below.refl _ _)
  simp only [List.setIfInBounds_toArray, List.set_cons_zero, List.set_cons_succ]
  refine obs_step (Eq.trans (by simp only [List.getElem?_toArray, List.getElem?_cons_succ, List.getElem?_cons_zero]; exact rfl) rfl) rfl (fun w' hS hV K hK => ?_) ?_
  · simp only [List.mem_cons, List.not_mem_nil, or_false, forall_eq_or_imp, forall_eq, List.getD_cons_succ, List.getD_cons_zero, VIs, VAny] at hV
    obtain ⟨e0, e1⟩ := hV
    obtain ⟨q0, q1⟩ := hS.1.two; have hcN : w'.cell? ⟨gN, 0, none⟩ = some (.int .i64 (nrmL P sq xs)) := (mkI_at (hN.below hS.2.2) (pw_pos n)).1; have hposI : 0 < pw n := pw_pos n
    go_simp
    exact hK.out _ _ _ rfl rfl rfl (Below.refl _ _)
  simp only [List.setIfInBounds_toArray, List.set_cons_zero, List.set_cons_succ]
  refine obs_step (Eq.trans (by simp only [List.getElem?_toArray, List.getElem?_cons_succ, List.getElem?_cons_zero]; exact rfl) rfl) rfl (fun w' hS hV K hK => ?_) ?_
  · simp only [List.mem_cons, List.not_mem_nil, or_false, forall_eq_or_imp, forall_eq, List.getD_cons_succ, List.getD_cons_zero, VIs, VAny] at hV
    obtain ⟨e0, e1, e2⟩ := hV
    obtain ⟨q0, q1⟩ := hS.1.two; have hcN : w'.cell? ⟨gN, 0, none⟩ = some (.int .i64 (nrmL P sq xs)) := (mkI_at (hN.below hS.2.2) (pw_pos n)).1; have hposI : 0 < pw n := pw_pos n
    go_simp
    exact hK.out _ _ _ rfl rfl rfl (Below.refl _ _)
  simp only [List.setIfInBounds_toArray, List.set_cons_zero, List.set_cons_succ]
  refine obs_step (Eq.trans (by simp only [List.getElem?_toArray, List.getElem?_cons_succ, List.getElem?_cons_zero]; exact rfl) rfl) rfl (fun w' hS hV K hK => ?_) ?_
  · simp only [List.mem_cons, List.not_mem_nil, or_false, forall_eq_or_imp, forall_eq, List.getD_cons_succ, List.getD_cons_zero, VIs, VAny] at hV
    obtain ⟨e0, e1, e2, e3⟩ := hV
    obtain ⟨q0, q1⟩ := hS.1.two; have hcN : w'.cell? ⟨gN, 0, none⟩ = some (.int .i64 (nrmL P sq xs)) := (mkI_at (hN.below hS.2.2) (pw_pos n)).1; have hposI : 0 < pw n := pw_pos n
    go_simp
    exact hK.out _ _ _ rfl rfl rfl (Below.refl _ _)
  simp only [List.setIfInBounds_toArray, List.set_cons_zero, List.set_cons_succ]
  refine obs_step (Eq.trans (by simp only [List.getElem?_toArray, List.getElem?_cons_succ, List.getElem?_cons_zero]; exact rfl) rfl) rfl (fun w' hS hV K hK => ?_) ?_
  · simp only [List.mem_cons, List.not_mem_nil, or_false, forall_eq_or_imp, forall_eq, List.getD_cons_succ, List.getD_cons_zero, VIs, VAny] at hV
    obtain ⟨e0, e1, e2, e3, e4⟩ := hV
    obtain ⟨q0, q1⟩ := hS.1.two; have hcN : w'.cell? ⟨gN, 0, none⟩ = some (.int .i64 (nrmL P sq xs)) := (mkI_at (hN.below hS.2.2) (pw_pos n)).1; have hposI : 0 < pw n := pw_pos n
    go_simp
    exact hK.out _ _ _ rfl rfl rfl (Below.refl _ _)
  simp only [List.setIfInBounds_toArray, List.set_cons_zero, List.set_cons_succ]
  refine obs_step (Eq.trans (by simp only [List.getElem?_toArray, List.getElem?_cons_succ, List.getElem?_cons_zero]; exact rfl) rfl) rfl (fun w' hS hV K hK => ?_) ?_
  · simp only [List.mem_cons, List.not_mem_nil, or_false, forall_eq_or_imp, forall_eq, List.getD_cons_succ, List.getD_cons_zero, VIs, VAny] at hV
    obtain ⟨e0, e1, e2, e3, e4⟩ := hV
    obtain ⟨q0, q1⟩ := hS.1.two; have hcN : w'.cell? ⟨gN, 0, none⟩ = some (.int .i64 (nrmL P sq xs)) := (mkI_at (hN.below hS.2.2) (pw_pos n)).1; have hposI : 0 < pw n := pw_pos n
    go_simp
    exact hK.out _ _ _ rfl rfl rfl (Below.refl _ _)
  simp only [List.setIfInBounds_toArray, List.set_cons_zero, List.set_cons_succ]
  refine obs_step (Eq.trans (by simp only [List.getElem?_toArray, List.getElem?_cons_succ, List.getElem?_cons_zero]; exact rfl) rfl) rfl (fun w' hS hV K hK => ?_) ?_
  · simp only [List.mem_cons, List.not_mem_nil, or_false, forall_eq_or_imp, forall_eq, List.getD_cons_succ, List.getD_cons_zero, VIs, VAny] at hV
    obtain ⟨e0, e1, e2, e3, e4, e6⟩ := hV
    obtain ⟨q0, q1⟩ := hS.1.two; have hcN : w'.cell? ⟨gN, 0, none⟩ = some (.int .i64 (nrmL P sq xs)) := (mkI_at (hN.below hS.2.2) (pw_pos n)).1; have hposI : 0 < pw n := pw_pos n
    go_simp
    exact hK.out _ _ _ rfl rfl rfl (Below.refl _ _)
  simp only [List.setIfInBounds_toArray, List.set_cons_zero, List.set_cons_succ]
  refine obs_step (Eq.trans (by simp only [List.getElem?_toArray, List.getElem?_cons_succ, List.getElem?_cons_zero]; exact rfl) rfl) rfl (fun w' hS hV K hK => ?_) ?_
  · simp only [List.mem_cons, List.not_mem_nil, or_false, forall_eq_or_imp, forall_eq, List.getD_cons_succ, List.getD_cons_zero, VIs, VAny] at hV
    obtain ⟨e0, e1, e2, e3, e4⟩ := hV
    obtain ⟨q0, q1⟩ := hS.1.two; have hcN : w'.cell? ⟨gN, 0, none⟩ = some (.int .i64 (nrmL P sq xs)) := (mkI_at (hN.below hS.2.2) (pw_pos n)).1; have hposI : 0 < pw n := pw_pos n
    go_simp
    exact hK.out _ _ _ rfl rfl rfl (Below.refl _ _)
  simp only [List.setIfInBounds_toArray, List.set_cons_zero, List.set_cons_succ]
  refine obs_step (Eq.trans (by simp only [List.getElem?_toArray, List.getElem?_cons_succ, List.getElem?_cons_zero]; exact rfl) rfl) rfl (fun w' hS hV K hK => ?_) ?_
  · simp only [List.mem_cons, List.not_mem_nil, or_false, forall_eq_or_imp, forall_eq, List.getD_cons_succ, List.getD_cons_zero, VIs, VAny] at hV
    obtain ⟨e0, e1, e2, e3, e4, e8⟩ := hV
    obtain ⟨q0, q1⟩ := hS.1.two; have hcN : w'.cell? ⟨gN, 0, none⟩ = some (.int .i64 (nrmL P sq xs)) := (mkI_at (hN.below hS.2.2) (pw_pos n)).1; have hposI : 0 < pw n := pw_pos n
    go_simp
    exact hK.out _ _ _ rfl rfl rfl (Below.refl _ _)
  simp only [List.setIfInBounds_toArray, List.set_cons_zero, List.set_cons_succ]
  refine obs_step (Eq.trans (by simp only [List.getElem?_toArray, List.getElem?_cons_succ, List.getElem?_cons_zero]; exact rfl) rfl) rfl (fun w' hS hV K hK => ?_) ?_
  · simp only [List.mem_cons, List.not_mem_nil, or_false, forall_eq_or_imp, forall_eq, List.getD_cons_succ, List.getD_cons_zero, VIs, VAny] at hV
    obtain ⟨e0, e1, e2, e3, e4⟩ := hV
    obtain ⟨q0, q1⟩ := hS.1.two; have hcN : w'.cell? ⟨gN, 0, none⟩ = some (.int .i64 (nrmL P sq xs)) := (mkI_at (hN.below hS.2.2) (pw_pos n)).1; have hposI : 0 < pw n := pw_pos n
    go_simp
    exact hK.out _ _ _ rfl rfl rfl (Below.refl _ _)
  simp only [List.setIfInBounds_toArray, List.set_cons_zero, List.set_cons_succ]
  refine obs_step (Eq.trans (by simp only [List.getElem?_toArray, List.getElem?_cons_succ, List.getElem?_cons_zero]; exact rfl) rfl) rfl (fun w' hS hV K hK => ?_) ?_
  · simp only [List.mem_cons, List.not_mem_nil, or_false, forall_eq_or_imp, forall_eq, List.getD_cons_succ, List.getD_cons_zero, VIs, VAny] at hV
    obtain ⟨e0, e1, e2, e3, e4, e10⟩ := hV
    obtain ⟨q0, q1⟩ := hS.1.two; have hcN : w'.cell? ⟨gN, 0, none⟩ = some (.int .i64 (nrmL P sq xs)) := (mkI_at (hN.below hS.2.2) (pw_pos n)).1; have hposI : 0 < pw n := pw_pos n
    go_simp
    exact hK.out _ _ _ rfl rfl rfl (Below.refl _ _)
  simp only [List.setIfInBounds_toArray, List.set_cons_zero, List.set_cons_succ]
  refine obs_step (Eq.trans (by simp only [List.getElem?_toArray, List.getElem?_cons_succ, List.getElem?_cons_zero]; exact rfl) rfl) rfl (fun w' hS hV K hK => ?_) ?_
  · simp only [List.mem_cons, List.not_mem_nil, or_false, forall_eq_or_imp, forall_eq, List.getD_cons_succ, List.getD_cons_zero, VIs, VAny] at hV
    obtain ⟨e0, e1, e2, e3, e4, e10, e11⟩ := hV
    obtain ⟨q0, q1⟩ := hS.1.two; have hcN : w'.cell? ⟨gN, 0, none⟩ = some (.int .i64 (nrmL P sq xs)) := (mkI_at (hN.below hS.2.2) (pw_pos n)).1; have hposI : 0 < pw n := pw_pos n
    go_simp
    exact hK.out _ _ _ rfl rfl rfl (Below.refl _ _)
  simp only [List.setIfInBounds_toArray, List.set_cons_zero, List.set_cons_succ]
  refine obs_step (Eq.trans (by simp only [List.getElem?_toArray, List.getElem?_cons_succ, List.getElem?_cons_zero]; exact rfl) rfl) rfl (fun w' hS hV K hK => ?_) ?_
  · simp only [List.mem_cons, List.not_mem_nil, or_false, forall_eq_or_imp, forall_eq, List.getD_cons_succ, List.getD_cons_zero, VIs, VAny] at hV
    obtain ⟨e0, e1, e2, e3, e4, e6, e7, e8, e9, e10, e11, e12⟩ := hV
    obtain ⟨q0, q1⟩ := hS.1.two; have hcN : w'.cell? ⟨gN, 0, none⟩ = some (.int .i64 (nrmL P sq xs)) := (mkI_at (hN.below hS.2.2) (pw_pos n)).1; have hposI : 0 < pw n := pw_pos n
    go_simp
    exact hK.out _ _ _ rfl rfl rfl (Below.refl _ _)
  simp only [List.setIfInBounds_toArray, List.set_cons_zero, List.set_cons_succ]
  refine obs_step (Eq.trans (by simp only [List.getElem?_toArray, List.getElem?_cons_succ, List.getElem?_cons_zero]; exact rfl) rfl) rfl (fun w' hS hV K hK => ?_) ?_
  · simp only [List.mem_cons, List.not_mem_nil, or_false, forall_eq_or_imp, forall_eq, List.getD_cons_succ, List.getD_cons_zero, VIs, VAny] at hV
    obtain ⟨e0, e1, e2, e3, e4, e5, e6, e7, e8, e9, e10, e11, e12, e13⟩ := hV
    obtain ⟨q0, q1⟩ := hS.1.two; have hcN : w'.cell? ⟨gN, 0, none⟩ = some (.int .i64 (nrmL P sq xs)) := (mkI_at (hN.below hS.2.2) (pw_pos n)).1; have hposI : 0 < pw n := pw_pos n
    go_simp
    exact hK.out _ _ _ rfl rfl rfl (Below.refl _ _)
  simp only [List.setIfInBounds_toArray, List.set_cons_zero, List.set_cons_succ]
  refine obs_step (Eq.trans (by simp only [List.getElem?_toArray, List.getElem?_cons_succ, List.getElem?_cons_zero]; exact rfl) rfl) rfl (fun w' hS hV K hK => ?_) ?_
  · simp only [List.mem_cons, List.not_mem_nil, or_false, forall_eq_or_imp, forall_eq, List.getD_cons_succ, List.getD_cons_zero, VIs, VAny] at hV
    obtain ⟨e0, e1, e2, e3, e4, e5, e6, e7, e8, e9, e10, e11, e12, e13, e14⟩ := hV
    obtain ⟨q0, q1⟩ := hS.1.two; have hcN : w'.cell? ⟨gN, 0, none⟩ = some (.int .i64 (nrmL P sq xs)) := (mkI_at (hN.below hS.2.2) (pw_pos n)).1; have hposI : 0 < pw n := pw_pos n
    go_simp
    exact hK.out _ _ _ rfl rfl rfl (Below.refl _ _)
  simp only [List.setIfInBounds_toArray, List.set_cons_zero, List.set_cons_succ]
  refine obs_step (Eq.trans (by simp only [List.getElem?_toArray, List.getElem?_cons_succ, List.getElem?_cons_zero]; exact rfl) rfl) rfl (fun w' hS hV K hK => ?_) ?_
  · simp only [List.mem_cons, List.not_mem_nil, or_false, forall_eq_or_imp, forall_eq, List.getD_cons_succ, List.getD_cons_zero, VIs, VAny] at hV
    obtain ⟨e0, e1, e2, e3, e4, e5, e6, e7, e8, e9, e10, e11, e12, e13, e14, e15⟩ := hV
    obtain ⟨q0, q1⟩ := hS.1.two; have hcN : w'.cell? ⟨gN, 0, none⟩ = some (.int .i64 (nrmL P sq xs)) := (mkI_at (hN.below hS.2.2) (pw_pos n)).1; have hposI : 0 < pw n := pw_pos n
    go_simp
    exact hK.out _ _ _ rfl rfl rfl (Below.refl _ _)
  simp only [List.setIfInBounds_toArray, List.set_cons_zero, List.set_cons_succ]
  refine obs_step (Eq.trans (by simp only [List.getElem?_toArray, List.getElem?_cons_succ, List.getElem?_cons_zero]; exact rfl) rfl) rfl (fun w' hS hV K hK => ?_) ?_
  · simp only [List.mem_cons, List.not_mem_nil, or_false, forall_eq_or_imp, forall_eq, List.getD_cons_succ, List.getD_cons_zero, VIs, VAny] at hV
    obtain ⟨e0, e1, e2, e3, e4, e5, e6, e7, e8, e9, e10, e11, e12, e13, e14, e15, e16⟩ := hV
    obtain ⟨q0, q1⟩ := hS.1.two; have hcN : w'.cell? ⟨gN, 0, none⟩ = some (.int .i64 (nrmL P sq xs)) := (mkI_at (hN.below hS.2.2) (pw_pos n)).1; have hposI : 0 < pw n := pw_pos n
    go_simp
    exact hK.out _ _ _ rfl rfl rfl (Below.refl _ _)
  simp only [List.setIfInBounds_toArray, List.set_cons_zero, List.set_cons_succ]
  refine obs_step (Eq.trans (by simp only [List.getElem?_toArray, List.getElem?_cons_succ, List.getElem?_cons_zero]; exact rfl) rfl) rfl (fun w' hS hV K hK => ?_) ?_
  · simp only [List.mem_cons, List.not_mem_nil, or_false, forall_eq_or_imp, forall_eq, List.getD_cons_succ, List.getD_cons_zero, VIs, VAny] at hV
    obtain ⟨e0, e1, e2, e3, e4, e5, e6, e7, e8, e9, e10, e11, e12, e13, e14, e15, e16, e17⟩ := hV
    obtain ⟨q0, q1⟩ := hS.1.two; have hcN : w'.cell? ⟨gN, 0, none⟩ = some (.int .i64 (nrmL P sq xs)) := (mkI_at (hN.below hS.2.2) (pw_pos n)).1; have hposI : 0 < pw n := pw_pos n
    go_simp
    exact hK.out _ _ _ rfl rfl rfl (Below.refl _ _)
  simp only [List.setIfInBounds_toArray, List.set_cons_zero, List.set_cons_succ]
  refine obs_step (Eq.trans (by simp only [List.getElem?_toArray, List.getElem?_cons_succ, List.getElem?_cons_zero]; exact rfl) rfl) rfl (fun w' hS hV K hK => ?_) ?_
  · simp only [List.mem_cons, List.not_mem_nil, or_false, forall_eq_or_imp, forall_eq, List.getD_cons_succ, List.getD_cons_zero, VIs, VAny] at hV
    obtain ⟨e0, e1, e2, e3, e4, e5, e6, e7, e8, e9, e10, e11, e12, e13, e14, e15, e16, e17⟩ := hV
    obtain ⟨q0, q1⟩ := hS.1.two; have hcN : w'.cell? ⟨gN, 0, none⟩ = some (.int .i64 (nrmL P sq xs)) := (mkI_at (hN.below hS.2.2) (pw_pos n)).1; have hposI : 0 < pw n := pw_pos n
    go_simp
    exact hK.out _ _ _ rfl rfl rfl (Below.refl _ _)
  simp only [List.setIfInBounds_toArray, List.set_cons_zero, List.set_cons_succ]
  refine obs_step (Eq.trans (by simp only [List.getElem?_toArray, List.getElem?_cons_succ, List.getElem?_cons_zero]; exact rfl) rfl) rfl (fun w' hS hV K hK => ?_) ?_
  · simp only [List.mem_cons, List.not_mem_nil, or_false, forall_eq_or_imp, forall_eq, List.getD_cons_succ, List.getD_cons_zero, VIs, VAny] at hV
    obtain ⟨e0, e1, e2, e3, e4, e5, e6, e7, e8, e9, e10, e11, e12, e13, e14, e15, e16, e17, e18, e19⟩ := hV
    obtain ⟨q0, q1⟩ := hS.1.two; have hcN : w'.cell? ⟨gN, 0, none⟩ = some (.int .i64 (nrmL P sq xs)) := (mkI_at (hN.below hS.2.2) (pw_pos n)).1; have hposI : 0 < pw n := pw_pos n
    go_simp
    exact hK.out _ _ _ rfl rfl rfl (Below.refl _ _)
  simp only [List.setIfInBounds_toArray, List.set_cons_zero, List.set_cons_succ]
  refine obs_step (Eq.trans (by simp only [List.getElem?_toArray, List.getElem?_cons_succ, List.getElem?_cons_zero]; exact rfl) rfl) rfl (fun w' hS hV K hK => ?_) ?_
  · simp only [List.mem_cons, List.not_mem_nil, or_false, forall_eq_or_imp, forall_eq, List.getD_cons_succ, List.getD_cons_zero, VIs, VAny] at hV
    obtain ⟨e0, e1, e2, e3, e4, e5, e6, e7, e8, e9, e10, e11, e12, e13, e14, e15, e16, e17, e18, e19, e20⟩ := hV
    obtain ⟨q0, q1⟩ := hS.1.two; have hcN : w'.cell? ⟨gN, 0, none⟩ = some (.int .i64 (nrmL P sq xs)) := (mkI_at (hN.below hS.2.2) (pw_pos n)).1; have hposI : 0 < pw n := pw_pos n
    go_simp
    exact hK.out _ _ _ rfl rfl rfl (Below.refl _ _)
  simp only [List.setIfInBounds_toArray, List.set_cons_zero, List.set_cons_succ]
  refine obs_step (Eq.trans (by simp only [List.getElem?_toArray, List.getElem?_cons_succ, List.getElem?_cons_zero]; exact rfl) rfl) rfl (fun w' hS hV K hK => ?_) ?_
  · simp only [List.mem_cons, List.not_mem_nil, or_false, forall_eq_or_imp, forall_eq, List.getD_cons_succ, List.getD_cons_zero, VIs, VAny] at hV
    obtain ⟨e0, e1, e2, e3, e4, e5, e6, e7, e8, e9, e10, e11, e12, e13, e14, e15, e16, e17, e18, e19, e20, e21⟩ := hV
    obtain ⟨q0, q1⟩ := hS.1.two; have hcN : w'.cell? ⟨gN, 0, none⟩ = some (.int .i64 (nrmL P sq xs)) := (mkI_at (hN.below hS.2.2) (pw_pos n)).1; have hposI : 0 < pw n := pw_pos n
    go_simp
    exact hK.out _ _ _ rfl rfl rfl (Below.refl _ _)
  simp only [List.setIfInBounds_toArray, List.set_cons_zero, List.set_cons_succ]
  refine fun w' hS hV => ?_
  have hV := fun i hi => hV i (List.mem_range.1 hi)
  simp only [List.range, List.range.loop, List.mem_cons, List.not_mem_nil, or_false, forall_eq_or_imp, forall_eq, List.getD_cons_succ, List.getD_cons_zero, VIs, VAny] at hV
  obtain ⟨e0, e1, e2, e3, e4, e5, e6, e7, e8, e9, e10, e11, e12, e13, e14, e15, e16, e17, e18, e19, e20, e21, e22⟩ := hV
  simp only [e0, e1, e2, e3, e4, e5, e6, e7, e8, e9, e10, e11, e12, e13, e14, e15, e16, e17, e18, e19, e20, e21, e22]
  clear e0 e1 e2 e3 e4 e5 e6 e7 e8 e9 e10 e11 e12 e13 e14 e15 e16 e17 e18 e19 e20 e21 e22
  refine wpAny_done (by kernel_rfl) ?_ _
  go_wp2
  go_ret
  exact ⟨ret_bool (by unfold versB; rw [H1.out]; rfl), hS.2.1⟩
set_option maxHeartbeats 3200000 in
set_option maxRecDepth 8000 in
theorem l07Is_B (P : Int) (A : Option Addr) (n c : Nat) (sq : List Int) (X : Option Addr) (cx : Nat) (xs : List Int) (w : World) (hp : 2 ≤ P) (hp2 : P ≤ 13) (hn : n ≤ 6) (ha : Rd w A n (ints sq)) (hs : NumsL P sq) (hx : Rd w X (pw n) (ints xs)) (hxs : NumsL P xs) (_hcx : pw n ≤ cx) (_HP : isP P = true) (h1 : ¬ nrmL P sq xs = 0) (h2 : onlyL (mulL P sq xs (revL P xs)) 0 = false) :
    Calls Tryz.prog 184 #[.agg #[.int .i64 P, .slice A n c], .slice X (pw n) cx] w fun e w' => e = .returned (.bool (versB P sq n xs)) ∧ Below w.heap.size w w' := by
  have hB0 : Below w.heap.size w (w.alloc (.cells #[.int .i64 P, .slice A n c] 26)) := (Below.refl _ _).alloc (Nat.le_refl _) _
  have k0 : Blk (w.alloc (.cells #[.int .i64 P, .slice A n c] 26)) w.heap.size 26 #[.int .i64 P, .slice A n c] := Blk.new _ _ _
  have HPW : pw n ≤ 65536 := Nat.le_trans (pw_le (show n ≤ 10 by omega)) (by decide)
  have HPW64 : pw n ≤ 64 := pw_le hn
  have HNN := mulL_nums (show 0 < P by omega) sq xs (revL P xs)
  have HSC : Hid (decide (mulL P sq xs (revL P xs) = scaleL P (bladeL n 0) (nrmL P sq xs)) = onlyL (mulL P sq xs (revL P xs)) 0) := Lib.hid (onlyL_scalar hp hn (by rw [mulL_len, hx.lenI]) HNN)
  have HEV := Lib.hid (evnV_neg (gs := gradesL xs) fun g hg => (gradesL_range xs g hg).1)
  have b1 : (nrmL P sq xs == 0) = false := by simp [h1]
  have H1 := Lib.hid b1
  have H2 := Lib.hid h2
  have HO : Hid (decide (mulL P sq xs (revL P xs) = scaleL P (bladeL n 0) (nrmL P sq xs)) = false) := Lib.hid (HSC.out.trans h2)
  clear h1 h2
  go_enter Tryz.func184, Tryz.ntmps184
  go_wp2_with fail
  refine (l04Reverse_any P A n c X (pw n) cx xs _ hp hp2 HPW64 (hx.below hB0) hxs).mono ?_
  rintro e w1 ⟨Bk, cB, rfl, hBk⟩
  have hB1 := hB0.trans (hBk.b.mono (by simp))
  have k1 := k0.below hBk.b k0.lt
  obtain ⟨q0, q1⟩ := k1.two
  clear k0 hB0
  go_wp2_with fail
  refine (l04Times_any P A n c sq X cx xs Bk cB _ _ hp hp2 hn (ha.below hB1) hs (hx.below hB1) hxs hBk.rd (sgnL_nums (by omega) revT hxs)).mono ?_
  rintro e w2 ⟨N, cN, rfl, hN⟩
  have hB2 := hB1.trans (hN.b.mono hB1.size)
  have k2 := k1.below hN.b k1.lt
  have hBk2 := hBk.below hN.b
  rcases hN.2.form with ⟨_, hz⟩ | ⟨gN, hgN, _, _⟩
  · exact absurd hz (by have := pw_pos n; omega)
  subst hgN
  clear q0 q1 k1 hB1 hBk
  go_wp2
  refine wp_obs 23 [[], [0], [0, 1], [0, 1, 2], [0, 1, 2, 3], [0, 1, 2, 3, 4], [0, 1, 2, 3, 4], [0, 1, 2, 3, 4, 6], [0, 1, 2, 3, 4], [0, 1, 2, 3, 4, 8], [0, 1, 2, 3, 4], [0, 1, 2, 3, 4, 10], [0, 1, 2, 3, 4, 10, 11], [0, 1, 2, 3, 4, 6, 7, 8, 9, 10, 11, 12], [0, 1, 2, 3, 4, 5, 6, 7, 8, 9, 10, 11, 12, 13], [0, 1, 2, 3, 4, 5, 6, 7, 8, 9, 10, 11, 12, 13, 14], [0, 1, 2, 3, 4, 5, 6, 7, 8, 9, 10, 11, 12, 13, 14, 15], [0, 1, 2, 3, 4, 5, 6, 7, 8, 9, 10, 11, 12, 13, 14, 15, 16], [0, 1, 2, 3, 4, 5, 6, 7, 8, 9, 10, 11, 12, 13, 14, 15, 16, 17], [0, 1, 2, 3, 4, 5, 6, 7, 8, 9, 10, 11, 12, 13, 14, 15, 16, 17], [0, 1, 2, 3, 4, 5, 6, 7, 8, 9, 10, 11, 12, 13, 14, 15, 16, 17, 18, 19], [0, 1, 2, 3, 4, 5, 6, 7, 8, 9, 10, 11, 12, 13, 14, 15, 16, 17, 18, 19, 20], [0, 1, 2, 3, 4, 5, 6, 7, 8, 9, 10, 11, 12, 13, 14, 15, 16, 17, 18, 19, 20, 21]] [VIs (.slice (some ⟨gN, 0, none⟩) (pw n) cN), VIs (.pointer (some ⟨gN, 0, none⟩)), VIs (.int .i64 (nrmL P sq xs)), VIs (.bool false), VIs (.bool false), VIs (.slice (some ⟨gN, 0, none⟩) (pw n) cN), VIs (.pointer (some ⟨w.heap.size, 0, none⟩)), VIs (.int .i64 P), VIs (.agg #[.int .i64 P, .slice A n c]), VSl w (pw n) (bladeL n 0), VIs (.slice (some ⟨gN, 0, none⟩) (pw n) cN), VIs (.pointer (some ⟨gN, 0, none⟩)), VIs (.int .i64 (nrmL P sq xs)), VSl w (pw n) (scaleL P (bladeL n 0) (nrmL P sq xs)), VIs (.bool false), VIs (.bool true), VIs (.bool true), VIs (.bool true), VIs undef, VIs undef, VIs undef, VIs undef, VIs (.bool true)] (fun w' => Blk w' w.heap.size 26 #[.int .i64 P, .slice A n c] ∧ Below w.heap.size w w' ∧ Below w2.heap.size w2 w') (by kernel_rfl) (by kernel_rfl) (fun _ _ h hb => ⟨h.1.below hb h.1.lt, h.2.1.trans (hb.mono h.2.1.size), h.2.2.trans (hb.mono h.2.2.size)⟩) (⟨k2.drew, hB2.drew, (Below.refl _ _).drew⟩) (fun x => ?_)
  refine obs_step (Eq.trans (by simp only [List.getElem?_toArray, List.getElem?_cons_zero]; exact rfl) rfl) rfl (fun w' hS hV K hK => ?_) ?_
  · obtain ⟨q0, q1⟩ := hS.1.two; have hcN : w'.cell? ⟨gN, 0, none⟩ = some (.int .i64 (nrmL P sq xs)) := (mkI_at (hN.below hS.2.2) (pw_pos n)).1; have hposI : 0 < pw n := pw_pos n
    go_simp
    exact hK.out _ _ _ rfl rfl rfl (Below.refl _ _)
  simp only [List.setIfInBounds_toArray, List.set_cons_zero, List.set_cons_succ]
  refine obs_step (Eq.trans (by simp only [List.getElem?_toArray, List.getElem?_cons_succ, List.getElem?_cons_zero]; exact rfl) rfl) rfl (fun w' hS hV K hK => ?_) ?_
  · simp only [List.mem_cons, List.not_mem_nil, or_false, forall_eq, List.getD_cons_succ, List.getD_cons_zero, VIs, VSl, VAny] at hV
    obtain e0 := hV
    obtain ⟨q0, q1⟩ := hS.1.two; have hcN : w'.cell? ⟨gN, 0, none⟩ = some (.int .i64 (nrmL P sq xs)) := (mkI_at (hN.below hS.2.2) (pw_pos n)).1; have hposI : 0 < pw n := pw_pos n
    go_simp
    exact hK.out _ _ _ rfl rfl rfl (Below.refl _ _)
  simp only [List.setIfInBounds_toArray, List.set_cons_zero, List.set_cons_succ]
  refine obs_step (Eq.trans (by simp only [List.getElem?_toArray, List.getElem?_cons_succ, List.getElem?_cons_zero]; exact rfl) rfl) rfl (fun w' hS hV K hK => ?_) ?_
  · simp only [List.mem_cons, List.not_mem_nil, or_false, forall_eq_or_imp, forall_eq, List.getD_cons_succ, List.getD_cons_zero, VIs, VSl, VAny] at hV
    obtain ⟨e0, e1⟩ := hV
    obtain ⟨q0, q1⟩ := hS.1.two; have hcN : w'.cell? ⟨gN, 0, none⟩ = some (.int .i64 (nrmL P sq xs)) := (mkI_at (hN.below hS.2.2) (pw_pos n)).1; have hposI : 0 < pw n := pw_pos n
    go_simp
    exact hK.out _ _ _ rfl rfl rfl (Below.refl _ _)
  simp only [List.setIfInBounds_toArray, List.set_cons_zero, List.set_cons_succ]
  refine obs_step (Eq.trans (by simp only [List.getElem?_toArray, List.getElem?_cons_succ, List.getElem?_cons_zero]; exact rfl) rfl) rfl (fun w' hS hV K hK => ?_) ?_
  · simp only [List.mem_cons, List.not_mem_nil, or_false, forall_eq_or_imp, forall_eq, List.getD_cons_succ, List.getD_cons_zero, VIs, VSl, VAny] at hV
    obtain ⟨e0, e1, e2⟩ := hV
    obtain ⟨q0, q1⟩ := hS.1.two; have hcN : w'.cell? ⟨gN, 0, none⟩ = some (.int .i64 (nrmL P sq xs)) := (mkI_at (hN.below hS.2.2) (pw_pos n)).1; have hposI : 0 < pw n := pw_pos n
    go_simp
    exact hK.out _ _ _ rfl rfl rfl (Below.refl _ _)
  simp only [List.setIfInBounds_toArray, List.set_cons_zero, List.set_cons_succ]
  refine obs_step (Eq.trans (by simp only [List.getElem?_toArray, List.getElem?_cons_succ, List.getElem?_cons_zero]; exact rfl) rfl) rfl (fun w' hS hV K hK => ?_) ?_
  · simp only [List.mem_cons, List.not_mem_nil, or_false, forall_eq_or_imp, forall_eq, List.getD_cons_succ, List.getD_cons_zero, VIs, VSl, VAny] at hV
    obtain ⟨e0, e1, e2, e3⟩ := hV
    obtain ⟨q0, q1⟩ := hS.1.two; have hcN : w'.cell? ⟨gN, 0, none⟩ = some (.int .i64 (nrmL P sq xs)) := (mkI_at (hN.below hS.2.2) (pw_pos n)).1; have hposI : 0 < pw n := pw_pos n
    go_simp
    exact hK.out _ _ _ rfl rfl rfl (Below.refl _ _)
  simp only [List.setIfInBounds_toArray, List.set_cons_zero, List.set_cons_succ]
  refine obs_step (Eq.trans (by simp only [List.getElem?_toArray, List.getElem?_cons_succ, List.getElem?_cons_zero]; exact rfl) rfl) rfl (fun w' hS hV K hK => ?_) ?_
  · simp only [List.mem_cons, List.not_mem_nil, or_false, forall_eq_or_imp, forall_eq, List.getD_cons_succ, List.getD_cons_zero, VIs, VSl, VAny] at hV
    obtain ⟨e0, e1, e2, e3, e4⟩ := hV
    obtain ⟨q0, q1⟩ := hS.1.two; have hcN : w'.cell? ⟨gN, 0, none⟩ = some (.int .i64 (nrmL P sq xs)) := (mkI_at (hN.below hS.2.2) (pw_pos n)).1; have hposI : 0 < pw n := pw_pos n
    go_simp
    exact hK.out _ _ _ rfl rfl rfl (Below.refl _ _)
  simp only [List.setIfInBounds_toArray, List.set_cons_zero, List.set_cons_succ]
  refine obs_step (Eq.trans (by simp only [List.getElem?_toArray, List.getElem?_cons_succ, List.getElem?_cons_zero]; exact rfl) rfl) rfl (fun w' hS hV K hK => ?_) ?_
  · simp only [List.mem_cons, List.not_mem_nil, or_false, forall_eq_or_imp, forall_eq, List.getD_cons_succ, List.getD_cons_zero, VIs, VSl, VAny] at hV
    obtain ⟨e0, e1, e2, e3, e4⟩ := hV
    obtain ⟨q0, q1⟩ := hS.1.two; have hcN : w'.cell? ⟨gN, 0, none⟩ = some (.int .i64 (nrmL P sq xs)) := (mkI_at (hN.below hS.2.2) (pw_pos n)).1; have hposI : 0 < pw n := pw_pos n
    go_simp
    exact hK.out _ _ _ rfl rfl rfl (Below.refl _ _)
  simp only [List.setIfInBounds_toArray, List.set_cons_zero, List.set_cons_succ]
  refine obs_step (Eq.trans (by simp only [List.getElem?_toArray, List.getElem?_cons_succ, List.getElem?_cons_zero]; exact rfl) rfl) rfl (fun w' hS hV K hK => ?_) ?_
  · simp only [List.mem_cons, List.not_mem_nil, or_false, forall_eq_or_imp, forall_eq, List.getD_cons_succ, List.getD_cons_zero, VIs, VSl, VAny] at hV
    obtain ⟨e0, e1, e2, e3, e4, e6⟩ := hV
    obtain ⟨q0, q1⟩ := hS.1.two; have hcN : w'.cell? ⟨gN, 0, none⟩ = some (.int .i64 (nrmL P sq xs)) := (mkI_at (hN.below hS.2.2) (pw_pos n)).1; have hposI : 0 < pw n := pw_pos n
    go_simp
    exact hK.out _ _ _ rfl rfl rfl (Below.refl _ _)
  simp only [List.setIfInBounds_toArray, List.set_cons_zero, List.set_cons_succ]
  refine obs_step (Eq.trans (by simp only [List.getElem?_toArray, List.getElem?_cons_succ, List.getElem?_cons_zero]; exact rfl) rfl) rfl (fun w' hS hV K hK => ?_) ?_
  · simp only [List.mem_cons, List.not_mem_nil, or_false, forall_eq_or_imp, forall_eq, List.getD_cons_succ, List.getD_cons_zero, VIs, VSl, VAny] at hV
    obtain ⟨e0, e1, e2, e3, e4⟩ := hV
    obtain ⟨q0, q1⟩ := hS.1.two; have hcN : w'.cell? ⟨gN, 0, none⟩ = some (.int .i64 (nrmL P sq xs)) := (mkI_at (hN.below hS.2.2) (pw_pos n)).1; have hposI : 0 < pw n := pw_pos n
    go_simp
    exact hK.out _ _ _ rfl rfl rfl (Below.refl _ _)
  simp only [List.setIfInBounds_toArray, List.set_cons_zero, List.set_cons_succ]
  refine obs_step (Eq.trans (by simp only [List.getElem?_toArray, List.getElem?_cons_succ, List.getElem?_cons_zero]; exact rfl) rfl) rfl (fun w' hS hV K hK => ?_) ?_
  · simp only [List.mem_cons, List.not_mem_nil, or_false, forall_eq_or_imp, forall_eq, List.getD_cons_succ, List.getD_cons_zero, VIs, VSl, VAny] at hV
    obtain ⟨e0, e1, e2, e3, e4, e8⟩ := hV
    obtain ⟨q0, q1⟩ := hS.1.two; have hcN : w'.cell? ⟨gN, 0, none⟩ = some (.int .i64 (nrmL P sq xs)) := (mkI_at (hN.below hS.2.2) (pw_pos n)).1; have hposI : 0 < pw n := pw_pos n
    go_simp
    refine (l04One_any P A n c _ (by omega)).mono ?_
    rintro e w1 ⟨A2, c2, rfl, hM⟩
    exact hK.out _ _ _ rfl rfl ⟨_, _, rfl, hM.after hS.2.1⟩ hM.b
  simp only [List.setIfInBounds_toArray, List.set_cons_zero, List.set_cons_succ]
  refine obs_step (Eq.trans (by simp only [List.getElem?_toArray, List.getElem?_cons_succ, List.getElem?_cons_zero]; exact rfl) rfl) rfl (fun w' hS hV K hK => ?_) ?_
  · simp only [List.mem_cons, List.not_mem_nil, or_false, forall_eq_or_imp, forall_eq, List.getD_cons_succ, List.getD_cons_zero, VIs, VSl, VAny] at hV
    obtain ⟨e0, e1, e2, e3, e4⟩ := hV
    obtain ⟨q0, q1⟩ := hS.1.two; have hcN : w'.cell? ⟨gN, 0, none⟩ = some (.int .i64 (nrmL P sq xs)) := (mkI_at (hN.below hS.2.2) (pw_pos n)).1; have hposI : 0 < pw n := pw_pos n
    go_simp
    exact hK.out _ _ _ rfl rfl rfl (Below.refl _ _)
  simp only [List.setIfInBounds_toArray, List.set_cons_zero, List.set_cons_succ]
  refine obs_step (Eq.trans (by simp only [List.getElem?_toArray, List.getElem?_cons_succ, List.getElem?_cons_zero]; exact rfl) rfl) rfl (fun w' hS hV K hK => ?_) ?_
  · simp only [List.mem_cons, List.not_mem_nil, or_false, forall_eq_or_imp, forall_eq, List.getD_cons_succ, List.getD_cons_zero, VIs, VSl, VAny] at hV
    obtain ⟨e0, e1, e2, e3, e4, e10⟩ := hV
    obtain ⟨q0, q1⟩ := hS.1.two; have hcN : w'.cell? ⟨gN, 0, none⟩ = some (.int .i64 (nrmL P sq xs)) := (mkI_at (hN.below hS.2.2) (pw_pos n)).1; have hposI : 0 < pw n := pw_pos n
    go_simp
    exact hK.out _ _ _ rfl rfl rfl (Below.refl _ _)
  simp only [List.setIfInBounds_toArray, List.set_cons_zero, List.set_cons_succ]
  refine obs_step (Eq.trans (by simp only [List.getElem?_toArray, List.getElem?_cons_succ, List.getElem?_cons_zero]; exact rfl) rfl) rfl (fun w' hS hV K hK => ?_) ?_
  · simp only [List.mem_cons, List.not_mem_nil, or_false, forall_eq_or_imp, forall_eq, List.getD_cons_succ, List.getD_cons_zero, VIs, VSl, VAny] at hV
    obtain ⟨e0, e1, e2, e3, e4, e10, e11⟩ := hV
    obtain ⟨q0, q1⟩ := hS.1.two; have hcN : w'.cell? ⟨gN, 0, none⟩ = some (.int .i64 (nrmL P sq xs)) := (mkI_at (hN.below hS.2.2) (pw_pos n)).1; have hposI : 0 < pw n := pw_pos n
    go_simp
    exact hK.out _ _ _ rfl rfl rfl (Below.refl _ _)
  simp only [List.setIfInBounds_toArray, List.set_cons_zero, List.set_cons_succ]
  refine obs_step (Eq.trans (by simp only [List.getElem?_toArray, List.getElem?_cons_succ, List.getElem?_cons_zero]; exact rfl) rfl) rfl (fun w' hS hV K hK => ?_) ?_
  · simp only [List.mem_cons, List.not_mem_nil, or_false, forall_eq_or_imp, forall_eq, List.getD_cons_succ, List.getD_cons_zero, VIs, VSl, VAny] at hV
    obtain ⟨e0, e1, e2, e3, e4, e6, e7, e8, ⟨A9, c9, e9, h9⟩, e10, e11, e12⟩ := hV
    obtain ⟨q0, q1⟩ := hS.1.two; have hcN : w'.cell? ⟨gN, 0, none⟩ = some (.int .i64 (nrmL P sq xs)) := (mkI_at (hN.below hS.2.2) (pw_pos n)).1; have hposI : 0 < pw n := pw_pos n
    go_simp
    refine (l02Scale_any P _ (pw n) _ (nrmL P sq xs) (bladeL n 0) _ hp hp2 HPW h9.rd (bladeL_nums hp n 0) (by have := (nrmL_small hp sq xs); omega) (by have := (nrmL_small hp sq xs); omega)).mono ?_
    rintro e w1 ⟨A2, c2, rfl, hM⟩
    exact hK.out _ _ _ rfl rfl ⟨_, _, rfl, hM.after hS.2.1⟩ hM.b
  simp only [List.setIfInBounds_toArray, List.set_cons_zero, List.set_cons_succ]
  refine obs_step (Eq.trans (by simp only [List.getElem?_toArray, List.getElem?_cons_succ, List.getElem?_cons_zero]; exact rfl) rfl) rfl (fun w' hS hV K hK => ?_) ?_
  · simp only [List.mem_cons, List.not_mem_nil, or_false, forall_eq_or_imp, forall_eq, List.getD_cons_succ, List.getD_cons_zero, VIs, VSl, VAny] at hV
    obtain ⟨e0, e1, e2, e3, e4, e5, e6, e7, e8, ⟨A9, c9, e9, h9⟩, e10, e11, e12, ⟨A13, c13, e13, h13⟩⟩ := hV
    obtain ⟨q0, q1⟩ := hS.1.two; have hcN : w'.cell? ⟨gN, 0, none⟩ = some (.int .i64 (nrmL P sq xs)) := (mkI_at (hN.below hS.2.2) (pw_pos n)).1; have hposI : 0 < pw n := pw_pos n
    go_simp
    refine (l01Same_b _ _ _ _ _ _ _ _ _ (by omega) (by omega) (hN.rd.below hS.2.2) h13.rd HO.out).mono ?_
    rintro e w1 ⟨rfl, j, rfl⟩
    exact hK.out _ _ _ rfl rfl rfl (below_drewN (Below.refl _ _) _)
  simp only [List.setIfInBounds_toArray, List.set_cons_zero, List.set_cons_succ]
  refine obs_step (Eq.trans (by simp only [List.getElem?_toArray, List.getElem?_cons_succ, List.getElem?_cons_zero]; exact rfl) rfl) rfl (fun w' hS hV K hK => ?_) ?_
  · simp only [List.mem_cons, List.not_mem_nil, or_false, forall_eq_or_imp, forall_eq, List.getD_cons_succ, List.getD_cons_zero, VIs, VSl, VAny] at hV
    obtain ⟨e0, e1, e2, e3, e4, e5, e6, e7, e8, ⟨A9, c9, e9, h9⟩, e10, e11, e12, ⟨A13, c13, e13, h13⟩, e14⟩ := hV
    obtain ⟨q0, q1⟩ := hS.1.two; have hcN : w'.cell? ⟨gN, 0, none⟩ = some (.int .i64 (nrmL P sq xs)) := (mkI_at (hN.below hS.2.2) (pw_pos n)).1; have hposI : 0 < pw n := pw_pos n
    go_simp
    exact hK.out _ _ _ rfl rfl rfl (Below.refl _ _)
  simp only [List.setIfInBounds_toArray, List.set_cons_zero, List.set_cons_succ]
  refine obs_step (Eq.trans (by simp only [List.getElem?_toArray, List.getElem?_cons_succ, List.getElem?_cons_zero]; exact rfl) rfl) rfl (fun w' hS hV K hK => ?_) ?_
  · simp only [List.mem_cons, List.not_mem_nil, or_false, forall_eq_or_imp, forall_eq, List.getD_cons_succ, List.getD_cons_zero, VIs, VSl, VAny] at hV
    obtain ⟨e0, e1, e2, e3, e4, e5, e6, e7, e8, ⟨A9, c9, e9, h9⟩, e10, e11, e12, ⟨A13, c13, e13, h13⟩, e14, e15⟩ := hV
    obtain ⟨q0, q1⟩ := hS.1.two; have hcN : w'.cell? ⟨gN, 0, none⟩ = some (.int .i64 (nrmL P sq xs)) := (mkI_at (hN.below hS.2.2) (pw_pos n)).1; have hposI : 0 < pw n := pw_pos n
    go_simp
    exact hK.out _ _ _ rfl rfl rfl (Below.refl _ _)
  simp only [List.setIfInBounds_toArray, List.set_cons_zero, List.set_cons_succ]
  refine obs_step (Eq.trans (by simp only [List.getElem?_toArray, List.getElem?_cons_succ, List.getElem?_cons_zero]; exact rfl) rfl) rfl (fun w' hS hV K hK => ?_) ?_
  · simp only [List.mem_cons, List.not_mem_nil, or_false, forall_eq_or_imp, forall_eq, List.getD_cons_succ, List.getD_cons_zero, VIs, VSl, VAny] at hV
    obtain ⟨e0, e1, e2, e3, e4, e5, e6, e7, e8, ⟨A9, c9, e9, h9⟩, e10, e11, e12, ⟨A13, c13, e13, h13⟩, e14, e15, e16⟩ := hV
    obtain ⟨q0, q1⟩ := hS.1.two; have hcN : w'.cell? ⟨gN, 0, none⟩ = some (.int .i64 (nrmL P sq xs)) := (mkI_at (hN.below hS.2.2) (pw_pos n)).1; have hposI : 0 < pw n := pw_pos n
    go_simp
    exact hK.out _ _ _ rfl rfl rfl (Below.refl _ _)
  simp only [List.setIfInBounds_toArray, List.set_cons_zero, List.set_cons_succ]
  refine obs_step (Eq.trans (by simp only [List.getElem?_toArray, List.getElem?_cons_succ, List.getElem?_cons_zero]; exact rfl) rfl) rfl (fun w' hS hV K hK => ?_) ?_
  · simp only [List.mem_cons, List.not_mem_nil, or_false, forall_eq_or_imp, forall_eq, List.getD_cons_succ, List.getD_cons_zero, VIs, VSl, VAny] at hV
    obtain ⟨e0, e1, e2, e3, e4, e5, e6, e7, e8, ⟨A9, c9, e9, h9⟩, e10, e11, e12, ⟨A13, c13, e13, h13⟩, e14, e15, e16, e17⟩ := hV
    obtain ⟨q0, q1⟩ := hS.1.two; have hcN : w'.cell? ⟨gN, 0, none⟩ = some (.int .i64 (nrmL P sq xs)) := (mkI_at (hN.below hS.2.2) (pw_pos n)).1; have hposI : 0 < pw n := pw_pos n
    go_simp
    exact hK.out _ _ _ rfl rfl rfl (Below.refl _ _)
  simp only [List.setIfInBounds_toArray, List.set_cons_zero, List.set_cons_succ]
  refine obs_step (Eq.trans (by simp only [List.getElem?_toArray, List.getElem?_cons_succ, List.getElem?_cons_zero]; exact rfl) rfl) rfl (fun w' hS hV K hK => ?_) ?_
  · simp only [List.mem_cons, List.not_mem_nil, or_false, forall_eq_or_imp, forall_eq, List.getD_cons_succ, List.getD_cons_zero, VIs, VSl, VAny] at hV
    obtain ⟨e0, e1, e2, e3, e4, e5, e6, e7, e8, ⟨A9, c9, e9, h9⟩, e10, e11, e12, ⟨A13, c13, e13, h13⟩, e14, e15, e16, e17⟩ := hV
    obtain ⟨q0, q1⟩ := hS.1.two; have hcN : w'.cell? ⟨gN, 0, none⟩ = some (.int .i64 (nrmL P sq xs)) := (mkI_at (hN.below hS.2.2) (pw_pos n)).1; have hposI : 0 < pw n := pw_pos n
    go_simp
    exact hK.out _ _ _ rfl rfl rfl (Below.refl _ _)
  simp only [List.setIfInBounds_toArray, List.set_cons_zero, List.set_cons_succ]
  refine obs_step (Eq.trans (by simp only [List.getElem?_toArray, List.getElem?_cons_succ, List.getElem?_cons_zero]; exact rfl) rfl) rfl (fun w' hS hV K hK => ?_) ?_
  · simp only [List.mem_cons, List.not_mem_nil, or_false, forall_eq_or_imp, forall_eq, List.getD_cons_succ, List.getD_cons_zero, VIs, VSl, VAny] at hV
    obtain ⟨e0, e1, e2, e3, e4, e5, e6, e7, e8, ⟨A9, c9, e9, h9⟩, e10, e11, e12, ⟨A13, c13, e13, h13⟩, e14, e15, e16, e17, e18, e19⟩ := hV
    obtain ⟨q0, q1⟩ := hS.1.two; have hcN : w'.cell? ⟨gN, 0, none⟩ = some (.int .i64 (nrmL P sq xs)) := (mkI_at (hN.below hS.2.2) (pw_pos n)).1; have hposI : 0 < pw n := pw_pos n
    go_simp
    exact hK.out _ _ _ rfl rfl rfl (Below.refl _ _)
  simp only [List.setIfInBounds_toArray, List.set_cons_zero, List.set_cons_succ]
  refine obs_step (Eq.trans (by simp only [List.getElem?_toArray, List.getElem?_cons_succ, List.getElem?_cons_zero]; exact rfl) rfl) rfl (fun w' hS hV K hK => ?_) ?_
  · simp only [List.mem_cons, List.not_mem_nil, or_false, forall_eq_or_imp, forall_eq, List.getD_cons_succ, List.getD_cons_zero, VIs, VSl, VAny] at hV
    obtain ⟨e0, e1, e2, e3, e4, e5, e6, e7, e8, ⟨A9, c9, e9, h9⟩, e10, e11, e12, ⟨A13, c13, e13, h13⟩, e14, e15, e16, e17, e18, e19, e20⟩ := hV
    obtain ⟨q0, q1⟩ := hS.1.two; have hcN : w'.cell? ⟨gN, 0, none⟩ = some (.int .i64 (nrmL P sq xs)) := (mkI_at (hN.below hS.2.2) (pw_pos n)).1; have hposI : 0 < pw n := pw_pos n
    go_simp
    exact hK.out _ _ _ rfl rfl rfl (Below.refl _ _)
  simp only [List.setIfInBounds_toArray, List.set_cons_zero, List.set_cons_succ]
  refine obs_step (Eq.trans (by simp only [List.getElem?_toArray, List.getElem?_cons_succ, List.getElem?_cons_zero]; exact rfl) rfl) rfl (fun w' hS hV K hK => ?_) ?_
  · simp only [List.mem_cons, List.not_mem_nil, or_false, forall_eq_or_imp, forall_eq, List.getD_cons_succ, List.getD_cons_zero, VIs, VSl, VAny] at hV
    obtain ⟨e0, e1, e2, e3, e4, e5, e6, e7, e8, ⟨A9, c9, e9, h9⟩, e10, e11, e12, ⟨A13, c13, e13, h13⟩, e14, e15, e16, e17, e18, e19, e20, e21⟩ := hV
    obtain ⟨q0, q1⟩ := hS.1.two; have hcN : w'.cell? ⟨gN, 0, none⟩ = some (.int .i64 (nrmL P sq xs)) := (mkI_at (hN.below hS.2.2) (pw_pos n)).1; have hposI : 0 < pw n := pw_pos n
    go_simp
    exact hK.out _ _ _ rfl rfl rfl (Below.refl _ _)
  simp only [List.setIfInBounds_toArray, List.set_cons_zero, List.set_cons_succ]
  refine fun w' hS hV => ?_
  have hV := fun i hi => hV i (List.mem_range.1 hi)
  simp only [List.range, List.range.loop, List.mem_cons, List.not_mem_nil, or_false, forall_eq_or_imp, forall_eq, List.getD_cons_succ, List.getD_cons_zero, VIs, VSl, VAny] at hV
  obtain ⟨e0, e1, e2, e3, e4, e5, e6, e7, e8, ⟨A9, c9, e9, h9⟩, e10, e11, e12, ⟨A13, c13, e13, h13⟩, e14, e15, e16, e17, e18, e19, e20, e21, e22⟩ := hV
  simp only [e0, e1, e2, e3, e4, e5, e6, e7, e8, e9, e10, e11, e12, e13, e14, e15, e16, e17, e18, e19, e20, e21, e22]
  clear e0 e1 e2 e3 e4 e5 e6 e7 e8 e9 e10 e11 e12 e13 e14 e15 e16 e17 e18 e19 e20 e21 e22
  refine wpAny_done (by kernel_rfl) ?_ _
  go_wp2
  go_ret
  exact ⟨ret_bool (by unfold versB; rw [H1.out, H2.out]; rfl), hS.2.1⟩
set_option maxHeartbeats 3200000 in
set_option maxRecDepth 8000 in
theorem l07Is_C (P : Int) (A : Option Addr) (n c : Nat) (sq : List Int) (X : Option Addr) (cx : Nat) (xs : List Int) (w : World) (hp : 2 ≤ P) (hp2 : P ≤ 13) (hn : n ≤ 6) (ha : Rd w A n (ints sq)) (hs : NumsL P sq) (hx : Rd w X (pw n) (ints xs)) (hxs : NumsL P xs) (_hcx : pw n ≤ cx) (_HP : isP P = true) (h1 : ¬ nrmL P sq xs = 0) (h2 : onlyL (mulL P sq xs (revL P xs)) 0 = true) (h3 : mixB (gradesL xs) = true) :
    Calls Tryz.prog 184 #[.agg #[.int .i64 P, .slice A n c], .slice X (pw n) cx] w fun e w' => e = .returned (.bool (versB P sq n xs)) ∧ Below w.heap.size w w' := by
  have hB0 : Below w.heap.size w (w.alloc (.cells #[.int .i64 P, .slice A n c] 26)) := (Below.refl _ _).alloc (Nat.le_refl _) _
  have k0 : Blk (w.alloc (.cells #[.int .i64 P, .slice A n c] 26)) w.heap.size 26 #[.int .i64 P, .slice A n c] := Blk.new _ _ _
  have HPW : pw n ≤ 65536 := Nat.le_trans (pw_le (show n ≤ 10 by omega)) (by decide)
  have HPW64 : pw n ≤ 64 := pw_le hn
  have HNN := mulL_nums (show 0 < P by omega) sq xs (revL P xs)
  have HSC : Hid (decide (mulL P sq xs (revL P xs) = scaleL P (bladeL n 0) (nrmL P sq xs)) = onlyL (mulL P sq xs (revL P xs)) 0) := Lib.hid (onlyL_scalar hp hn (by rw [mulL_len, hx.lenI]) HNN)
  have HEV := Lib.hid (evnV_neg (gs := gradesL xs) fun g hg => (gradesL_range xs g hg).1)
  have b1 : (nrmL P sq xs == 0) = false := by simp [h1]
  have H1 := Lib.hid b1
  have H2 := Lib.hid h2
  have H3 := Lib.hid h3
  have HO : Hid (decide (mulL P sq xs (revL P xs) = scaleL P (bladeL n 0) (nrmL P sq xs)) = true) := Lib.hid (HSC.out.trans h2)
  have hev : decide (evnV (gradesL xs) < 0) = true := HEV.out.trans h3
  clear h1 h2 h3
  go_enter Tryz.func184, Tryz.ntmps184
  go_wp2_with fail
  refine (l04Reverse_any P A n c X (pw n) cx xs _ hp hp2 HPW64 (hx.below hB0) hxs).mono ?_
  rintro e w1 ⟨Bk, cB, rfl, hBk⟩
  have hB1 := hB0.trans (hBk.b.mono (by simp))
  have k1 := k0.below hBk.b k0.lt
  obtain ⟨q0, q1⟩ := k1.two
  clear k0 hB0
  go_wp2_with fail
  refine (l04Times_any P A n c sq X cx xs Bk cB _ _ hp hp2 hn (ha.below hB1) hs (hx.below hB1) hxs hBk.rd (sgnL_nums (by omega) revT hxs)).mono ?_
  rintro e w2 ⟨N, cN, rfl, hN⟩
  have hB2 := hB1.trans (hN.b.mono hB1.size)
  have k2 := k1.below hN.b k1.lt
  have hBk2 := hBk.below hN.b
  rcases hN.2.form with ⟨_, hz⟩ | ⟨gN, hgN, _, _⟩
  · exact absurd hz (by have := pw_pos n; omega)
  subst hgN
  clear q0 q1 k1 hB1 hBk
  go_wp2
  refine wp_obs 23 [[], [0], [0, 1], [0, 1, 2], [0, 1, 2, 3], [0, 1, 2, 3, 4], [0, 1, 2, 3, 4], [0, 1, 2, 3, 4, 6], [0, 1, 2, 3, 4], [0, 1, 2, 3, 4, 8], [0, 1, 2, 3, 4], [0, 1, 2, 3, 4, 10], [0, 1, 2, 3, 4, 10, 11], [0, 1, 2, 3, 4, 6, 7, 8, 9, 10, 11, 12], [0, 1, 2, 3, 4, 5, 6, 7, 8, 9, 10, 11, 12, 13], [0, 1, 2, 3, 4, 5, 6, 7, 8, 9, 10, 11, 12, 13, 14], [0, 1, 2, 3, 4, 5, 6, 7, 8, 9, 10, 11, 12, 13, 14, 15], [0, 1, 2, 3, 4, 5, 6, 7, 8, 9, 10, 11, 12, 13, 14, 15, 16], [0, 1, 2, 3, 4, 5, 6, 7, 8, 9, 10, 11, 12, 13, 14, 15, 16, 17], [0, 1, 2, 3, 4, 5, 6, 7, 8, 9, 10, 11, 12, 13, 14, 15, 16, 17], [0, 1, 2, 3, 4, 5, 6, 7, 8, 9, 10, 11, 12, 13, 14, 15, 16, 17, 18, 19], [0, 1, 2, 3, 4, 5, 6, 7, 8, 9, 10, 11, 12, 13, 14, 15, 16, 17, 18, 19, 20], [0, 1, 2, 3, 4, 5, 6, 7, 8, 9, 10, 11, 12, 13, 14, 15, 16, 17, 18, 19, 20, 21]] [VIs (.slice (some ⟨gN, 0, none⟩) (pw n) cN), VIs (.pointer (some ⟨gN, 0, none⟩)), VIs (.int .i64 (nrmL P sq xs)), VIs (.bool false), VIs (.bool false), VIs (.slice (some ⟨gN, 0, none⟩) (pw n) cN), VIs (.pointer (some ⟨w.heap.size, 0, none⟩)), VIs (.int .i64 P), VIs (.agg #[.int .i64 P, .slice A n c]), VSl w (pw n) (bladeL n 0), VIs (.slice (some ⟨gN, 0, none⟩) (pw n) cN), VIs (.pointer (some ⟨gN, 0, none⟩)), VIs (.int .i64 (nrmL P sq xs)), VSl w (pw n) (scaleL P (bladeL n 0) (nrmL P sq xs)), VIs (.bool true), VIs (.bool false), VIs (.bool false), VIs (.bool false), VIs (.agg #[.int .i64 P, .slice A n c]), VIs (.slice X (pw n) cx), VIs (.int .i64 (evnV (gradesL xs))), VIs (.bool true), VIs (.bool true)] (fun w' => Blk w' w.heap.size 26 #[.int .i64 P, .slice A n c] ∧ Below w.heap.size w w' ∧ Below w2.heap.size w2 w') (by kernel_rfl) (by kernel_rfl) (fun _ _ h hb => ⟨h.1.below hb h.1.lt, h.2.1.trans (hb.mono h.2.1.size), h.2.2.trans (hb.mono h.2.2.size)⟩) (⟨k2.drew, hB2.drew, (Below.refl _ _).drew⟩) (fun x => ?_)
  refine obs_step (Eq.trans (by simp only [List.getElem?_toArray, List.getElem?_cons_zero]; exact rfl) rfl) rfl (fun w' hS hV K hK => ?_) ?_
  · obtain ⟨q0, q1⟩ := hS.1.two; have hcN : w'.cell? ⟨gN, 0, none⟩ = some (.int .i64 (nrmL P sq xs)) := (mkI_at (hN.below hS.2.2) (pw_pos n)).1; have hposI : 0 < pw n := pw_pos n
    go_simp
    exact hK.out _ _ _ rfl rfl rfl (Below.refl _ _)
  simp only [List.setIfInBounds_toArray, List.set_cons_zero, List.set_cons_succ]
  refine obs_step (Eq.trans (by simp only [List.getElem?_toArray, List.getElem?_cons_succ, List.getElem?_cons_zero]; exact rfl) rfl) rfl (fun w' hS hV K hK => ?_) ?_
  · simp only [List.mem_cons, List.not_mem_nil, or_false, forall_eq, List.getD_cons_succ, List.getD_cons_zero, VIs, VSl, VAny] at hV
    obtain e0 := hV
    obtain ⟨q0, q1⟩ := hS.1.two; have hcN : w'.cell? ⟨gN, 0, none⟩ = some (.int .i64 (nrmL P sq xs)) := (mkI_at (hN.below hS.2.2) (pw_pos n)).1; have hposI : 0 < pw n := pw_pos n
    go_simp
    exact hK.out _ _ _ rfl rfl rfl (Below.refl _ _)
  simp only [List.setIfInBounds_toArray, List.set_cons_zero, List.set_cons_succ]
  refine obs_step (Eq.trans (by simp only [List.getElem?_toArray, List.getElem?_cons_succ, List.getElem?_cons_zero]; exact rfl) rfl) rfl (fun w' hS hV K hK => ?_) ?_
  · simp only [List.mem_cons, List.not_mem_nil, or_false, forall_eq_or_imp, forall_eq, List.getD_cons_succ, List.getD_cons_zero, VIs, VSl, VAny] at hV
    obtain ⟨e0, e1⟩ := hV
    obtain ⟨q0, q1⟩ := hS.1.two; have hcN : w'.cell? ⟨gN, 0, none⟩ = some (.int .i64 (nrmL P sq xs)) := (mkI_at (hN.below hS.2.2) (pw_pos n)).1; have hposI : 0 < pw n := pw_pos n
    go_simp
    exact hK.out _ _ _ rfl rfl rfl (Below.refl _ _)
  simp only [List.setIfInBounds_toArray, List.set_cons_zero, List.set_cons_succ]
  refine obs_step (Eq.trans (by simp only [List.getElem?_toArray, List.getElem?_cons_succ, List.getElem?_cons_zero]; exact rfl) rfl) rfl (fun w' hS hV K hK => ?_) ?_
  · simp only [List.mem_cons, List.not_mem_nil, or_false, forall_eq_or_imp, forall_eq, List.getD_cons_succ, List.getD_cons_zero, VIs, VSl, VAny] at hV
    obtain ⟨e0, e1, e2⟩ := hV
    obtain ⟨q0, q1⟩ := hS.1.two; have hcN : w'.cell? ⟨gN, 0, none⟩ = some (.int .i64 (nrmL P sq xs)) := (mkI_at (hN.below hS.2.2) (pw_pos n)).1; have hposI : 0 < pw n := pw_pos n
    go_simp
    exact hK.out _ _ _ rfl rfl rfl (Below.refl _ _)
  simp only [List.setIfInBounds_toArray, List.set_cons_zero, List.set_cons_succ]
  refine obs_step (Eq.trans (by simp only [List.getElem?_toArray, List.getElem?_cons_succ, List.getElem?_cons_zero]; exact rfl) rfl) rfl (fun w' hS hV K hK => ?_) ?_
  · simp only [List.mem_cons, List.not_mem_nil, or_false, forall_eq_or_imp, forall_eq, List.getD_cons_succ, List.getD_cons_zero, VIs, VSl, VAny] at hV
    obtain ⟨e0, e1, e2, e3⟩ := hV
    obtain ⟨q0, q1⟩ := hS.1.two; have hcN : w'.cell? ⟨gN, 0, none⟩ = some (.int .i64 (nrmL P sq xs)) := (mkI_at (hN.below hS.2.2) (pw_pos n)).1; have hposI : 0 < pw n := pw_pos n
    go_simp
    exact hK.out _ _ _ rfl rfl rfl (Below.refl _ _)
  simp only [List.setIfInBounds_toArray, List.set_cons_zero, List.set_cons_succ]
  refine obs_step (Eq.trans (by simp only [List.getElem?_toArray, List.getElem?_cons_succ, List.getElem?_cons_zero]; exact rfl) rfl) rfl (fun w' hS hV K hK => ?_) ?_
  · simp only [List.mem_cons, List.not_mem_nil, or_false, forall_eq_or_imp, forall_eq, List.getD_cons_succ, List.getD_cons_zero, VIs, VSl, VAny] at hV
    obtain ⟨e0, e1, e2, e3, e4⟩ := hV
    obtain ⟨q0, q1⟩ := hS.1.two; have hcN : w'.cell? ⟨gN, 0, none⟩ = some (.int .i64 (nrmL P sq xs)) := (mkI_at (hN.below hS.2.2) (pw_pos n)).1; have hposI : 0 < pw n := pw_pos n
    go_simp
    exact hK.out _ _ _ rfl rfl rfl (Below.refl _ _)
  simp only [List.setIfInBounds_toArray, List.set_cons_zero, List.set_cons_succ]
  refine obs_step (Eq.trans (by simp only [List.getElem?_toArray, List.getElem?_cons_succ, List.getElem?_cons_zero]; exact rfl) rfl) rfl (fun w' hS hV K hK => ?_) ?_
  · simp only [List.mem_cons, List.not_mem_nil, or_false, forall_eq_or_imp, forall_eq, List.getD_cons_succ, List.getD_cons_zero, VIs, VSl, VAny] at hV
    obtain ⟨e0, e1, e2, e3, e4⟩ := hV
    obtain ⟨q0, q1⟩ := hS.1.two; have hcN : w'.cell? ⟨gN, 0, none⟩ = some (.int .i64 (nrmL P sq xs)) := (mkI_at (hN.below hS.2.2) (pw_pos n)).1; have hposI : 0 < pw n := pw_pos n
    go_simp
    exact hK.out _ _ _ rfl rfl rfl (Below.refl _ _)
  simp only [List.setIfInBounds_toArray, List.set_cons_zero, List.set_cons_succ]
  refine obs_step (Eq.trans (by simp only [List.getElem?_toArray, List.getElem?_cons_succ, List.getElem?_cons_zero]; exact rfl) rfl) rfl (fun w' hS hV K hK => ?_) ?_
  · simp only [List.mem_cons, List.not_mem_nil, or_false, forall_eq_or_imp, forall_eq, List.getD_cons_succ, List.getD_cons_zero, VIs, VSl, VAny] at hV
    obtain ⟨e0, e1, e2, e3, e4, e6⟩ := hV
    obtain ⟨q0, q1⟩ := hS.1.two; have hcN : w'.cell? ⟨gN, 0, none⟩ = some (.int .i64 (nrmL P sq xs)) := (mkI_at (hN.below hS.2.2) (pw_pos n)).1; have hposI : 0 < pw n := pw_pos n
    go_simp
    exact hK.out _ _ _ rfl rfl rfl (Below.refl _ _)
  simp only [List.setIfInBounds_toArray, List.set_cons_zero, List.set_cons_succ]
  refine obs_step (Eq.trans (by simp only [List.getElem?_toArray, List.getElem?_cons_succ, List.getElem?_cons_zero]; exact rfl) rfl) rfl (fun w' hS hV K hK => ?_) ?_
  · simp only [List.mem_cons, List.not_mem_nil, or_false, forall_eq_or_imp, forall_eq, List.getD_cons_succ, List.getD_cons_zero, VIs, VSl, VAny] at hV
    obtain ⟨e0, e1, e2, e3, e4⟩ := hV
    obtain ⟨q0, q1⟩ := hS.1.two; have hcN : w'.cell? ⟨gN, 0, none⟩ = some (.int .i64 (nrmL P sq xs)) := (mkI_at (hN.below hS.2.2) (pw_pos n)).1; have hposI : 0 < pw n := pw_pos n
    go_simp
    exact hK.out _ _ _ rfl rfl rfl (Below.refl _ _)
  simp only [List.setIfInBounds_toArray, List.set_cons_zero, List.set_cons_succ]
  refine obs_step (Eq.trans (by simp only [List.getElem?_toArray, List.getElem?_cons_succ, List.getElem?_cons_zero]; exact rfl) rfl) rfl (fun w' hS hV K hK => ?_) ?_
  · simp only [List.mem_cons, List.not_mem_nil, or_false, forall_eq_or_imp, forall_eq, List.getD_cons_succ, List.getD_cons_zero, VIs, VSl, VAny] at hV
    obtain ⟨e0, e1, e2, e3, e4, e8⟩ := hV
    obtain ⟨q0, q1⟩ := hS.1.two; have hcN : w'.cell? ⟨gN, 0, none⟩ = some (.int .i64 (nrmL P sq xs)) := (mkI_at (hN.below hS.2.2) (pw_pos n)).1; have hposI : 0 < pw n := pw_pos n
    go_simp
    refine (l04One_any P A n c _ (by omega)).mono ?_
    rintro e w1 ⟨A2, c2, rfl, hM⟩
    exact hK.out _ _ _ rfl rfl ⟨_, _, rfl, hM.after hS.2.1⟩ hM.b
  simp only [List.setIfInBounds_toArray, List.set_cons_zero, List.set_cons_succ]
  refine obs_step (Eq.trans (by simp only [List.getElem?_toArray, List.getElem?_cons_succ, List.getElem?_cons_zero]; exact rfl) rfl) rfl (fun w' hS hV K hK => ?_) ?_
  · simp only [List.mem_cons, List.not_mem_nil, or_false, forall_eq_or_imp, forall_eq, List.getD_cons_succ, List.getD_cons_zero, VIs, VSl, VAny] at hV
    obtain ⟨e0, e1, e2, e3, e4⟩ := hV
    obtain ⟨q0, q1⟩ := hS.1.two; have hcN : w'.cell? ⟨gN, 0, none⟩ = some (.int .i64 (nrmL P sq xs)) := (mkI_at (hN.below hS.2.2) (pw_pos n)).1; have hposI : 0 < pw n := pw_pos n
    go_simp
    exact hK.out _ _ _ rfl rfl rfl (Below.refl _ _)
  simp only [List.setIfInBounds_toArray, List.set_cons_zero, List.set_cons_succ]
  refine obs_step (Eq.trans (by simp only [List.getElem?_toArray, List.getElem?_cons_succ, List.getElem?_cons_zero]; exact rfl) rfl) rfl (fun w' hS hV K hK => ?_) ?_
  · simp only [List.mem_cons, List.not_mem_nil, or_false, forall_eq_or_imp, forall_eq, List.getD_cons_succ, List.getD_cons_zero, VIs, VSl, VAny] at hV
    obtain ⟨e0, e1, e2, e3, e4, e10⟩ := hV
    obtain ⟨q0, q1⟩ := hS.1.two; have hcN : w'.cell? ⟨gN, 0, none⟩ = some (.int .i64 (nrmL P sq xs)) := (mkI_at (hN.below hS.2.2) (pw_pos n)).1; have hposI : 0 < pw n := pw_pos n
    go_simp
    exact hK.out _ _ _ rfl rfl rfl (Below.refl _ _)
  simp only [List.setIfInBounds_toArray, List.set_cons_zero, List.set_cons_succ]
  refine obs_step (Eq.trans (by simp only [List.getElem?_toArray, List.getElem?_cons_succ, List.getElem?_cons_zero]; exact rfl) rfl) rfl (fun w' hS hV K hK => ?_) ?_
  · simp only [List.mem_cons, List.not_mem_nil, or_false, forall_eq_or_imp, forall_eq, List.getD_cons_succ, List.getD_cons_zero, VIs, VSl, VAny] at hV
    obtain ⟨e0, e1, e2, e3, e4, e10, e11⟩ := hV
    obtain ⟨q0, q1⟩ := hS.1.two; have hcN : w'.cell? ⟨gN, 0, none⟩ = some (.int .i64 (nrmL P sq xs)) := (mkI_at (hN.below hS.2.2) (pw_pos n)).1; have hposI : 0 < pw n := pw_pos n
    go_simp
    exact hK.out _ _ _ rfl rfl rfl (Below.refl _ _)
  simp only [List.setIfInBounds_toArray, List.set_cons_zero, List.set_cons_succ]
  refine obs_step (Eq.trans (by simp only [List.getElem?_toArray, List.getElem?_cons_succ, List.getElem?_cons_zero]; exact rfl) rfl) rfl (fun w' hS hV K hK => ?_) ?_
  · simp only [List.mem_cons, List.not_mem_nil, or_false, forall_eq_or_imp, forall_eq, List.getD_cons_succ, List.getD_cons_zero, VIs, VSl, VAny] at hV
    obtain ⟨e0, e1, e2, e3, e4, e6, e7, e8, ⟨A9, c9, e9, h9⟩, e10, e11, e12⟩ := hV
    obtain ⟨q0, q1⟩ := hS.1.two; have hcN : w'.cell? ⟨gN, 0, none⟩ = some (.int .i64 (nrmL P sq xs)) := (mkI_at (hN.below hS.2.2) (pw_pos n)).1; have hposI : 0 < pw n := pw_pos n
    go_simp
    refine (l02Scale_any P _ (pw n) _ (nrmL P sq xs) (bladeL n 0) _ hp hp2 HPW h9.rd (bladeL_nums hp n 0) (by have := (nrmL_small hp sq xs); omega) (by have := (nrmL_small hp sq xs); omega)).mono ?_
    rintro e w1 ⟨A2, c2, rfl, hM⟩
    exact hK.out _ _ _ rfl rfl ⟨_, _, rfl, hM.after hS.2.1⟩ hM.b
  simp only [List.setIfInBounds_toArray, List.set_cons_zero, List.set_cons_succ]
  refine obs_step (Eq.trans (by simp only [List.getElem?_toArray, List.getElem?_cons_succ, List.getElem?_cons_zero]; exact rfl) rfl) rfl (fun w' hS hV K hK => ?_) ?_
  · simp only [List.mem_cons, List.not_mem_nil, or_false, forall_eq_or_imp, forall_eq, List.getD_cons_succ, List.getD_cons_zero, VIs, VSl, VAny] at hV
    obtain ⟨e0, e1, e2, e3, e4, e5, e6, e7, e8, ⟨A9, c9, e9, h9⟩, e10, e11, e12, ⟨A13, c13, e13, h13⟩⟩ := hV
    obtain ⟨q0, q1⟩ := hS.1.two; have hcN : w'.cell? ⟨gN, 0, none⟩ = some (.int .i64 (nrmL P sq xs)) := (mkI_at (hN.below hS.2.2) (pw_pos n)).1; have hposI : 0 < pw n := pw_pos n
    go_simp
    refine (l01Same_b _ _ _ _ _ _ _ _ _ (by omega) (by omega) (hN.rd.below hS.2.2) h13.rd HO.out).mono ?_
    rintro e w1 ⟨rfl, j, rfl⟩
    exact hK.out _ _ _ rfl rfl rfl (below_drewN (Below.refl _ _) _)
  simp only [List.setIfInBounds_toArray, List.set_cons_zero, List.set_cons_succ]
  refine obs_step (Eq.trans (by simp only [List.getElem?_toArray, List.getElem?_cons_succ, List.getElem?_cons_zero]; exact rfl) rfl) rfl (fun w' hS hV K hK => ?_) ?_
  · simp only [List.mem_cons, List.not_mem_nil, or_false, forall_eq_or_imp, forall_eq, List.getD_cons_succ, List.getD_cons_zero, VIs, VSl, VAny] at hV
    obtain ⟨e0, e1, e2, e3, e4, e5, e6, e7, e8, ⟨A9, c9, e9, h9⟩, e10, e11, e12, ⟨A13, c13, e13, h13⟩, e14⟩ := hV
    obtain ⟨q0, q1⟩ := hS.1.two; have hcN : w'.cell? ⟨gN, 0, none⟩ = some (.int .i64 (nrmL P sq xs)) := (mkI_at (hN.below hS.2.2) (pw_pos n)).1; have hposI : 0 < pw n := pw_pos n
    go_simp
    exact hK.out _ _ _ rfl rfl rfl (Below.refl _ _)
  simp only [List.setIfInBounds_toArray, List.set_cons_zero, List.set_cons_succ]
  refine obs_step (Eq.trans (by simp only [List.getElem?_toArray, List.getElem?_cons_succ, List.getElem?_cons_zero]; exact rfl) rfl) rfl (fun w' hS hV K hK => ?_) ?_
  · simp only [List.mem_cons, List.not_mem_nil, or_false, forall_eq_or_imp, forall_eq, List.getD_cons_succ, List.getD_cons_zero, VIs, VSl, VAny] at hV
    obtain ⟨e0, e1, e2, e3, e4, e5, e6, e7, e8, ⟨A9, c9, e9, h9⟩, e10, e11, e12, ⟨A13, c13, e13, h13⟩, e14, e15⟩ := hV
    obtain ⟨q0, q1⟩ := hS.1.two; have hcN : w'.cell? ⟨gN, 0, none⟩ = some (.int .i64 (nrmL P sq xs)) := (mkI_at (hN.below hS.2.2) (pw_pos n)).1; have hposI : 0 < pw n := pw_pos n
    go_simp
    exact hK.out _ _ _ rfl rfl rfl (Below.refl _ _)
  simp only [List.setIfInBounds_toArray, List.set_cons_zero, List.set_cons_succ]
  refine obs_step (Eq.trans (by simp only [List.getElem?_toArray, List.getElem?_cons_succ, List.getElem?_cons_zero]; exact rfl) rfl) rfl (fun w' hS hV K hK => ?_) ?_
  · simp only [List.mem_cons, List.not_mem_nil, or_false, forall_eq_or_imp, forall_eq, List.getD_cons_succ, List.getD_cons_zero, VIs, VSl, VAny] at hV
    obtain ⟨e0, e1, e2, e3, e4, e5, e6, e7, e8, ⟨A9, c9, e9, h9⟩, e10, e11, e12, ⟨A13, c13, e13, h13⟩, e14, e15, e16⟩ := hV
    obtain ⟨q0, q1⟩ := hS.1.two; have hcN : w'.cell? ⟨gN, 0, none⟩ = some (.int .i64 (nrmL P sq xs)) := (mkI_at (hN.below hS.2.2) (pw_pos n)).1; have hposI : 0 < pw n := pw_pos n
    go_simp
    exact hK.out _ _ _ rfl rfl rfl (Below.refl _ _)
  simp only [List.setIfInBounds_toArray, List.set_cons_zero, List.set_cons_succ]
  refine obs_step (Eq.trans (by simp only [List.getElem?_toArray, List.getElem?_cons_succ, List.getElem?_cons_zero]; exact rfl) rfl) rfl (fun w' hS hV K hK => ?_) ?_
  · simp only [List.mem_cons, List.not_mem_nil, or_false, forall_eq_or_imp, forall_eq, List.getD_cons_succ, List.getD_cons_zero, VIs, VSl, VAny] at hV
    obtain ⟨e0, e1, e2, e3, e4, e5, e6, e7, e8, ⟨A9, c9, e9, h9⟩, e10, e11, e12, ⟨A13, c13, e13, h13⟩, e14, e15, e16, e17⟩ := hV
    obtain ⟨q0, q1⟩ := hS.1.two; have hcN : w'.cell? ⟨gN, 0, none⟩ = some (.int .i64 (nrmL P sq xs)) := (mkI_at (hN.below hS.2.2) (pw_pos n)).1; have hposI : 0 < pw n := pw_pos n
    go_simp
    exact hK.out _ _ _ rfl rfl rfl (Below.refl _ _)
  simp only [List.setIfInBounds_toArray, List.set_cons_zero, List.set_cons_succ]
  refine obs_step (Eq.trans (by simp only [List.getElem?_toArray, List.getElem?_cons_succ, List.getElem?_cons_zero]; exact rfl) rfl) rfl (fun w' hS hV K hK => ?_) ?_
  · simp only [List.mem_cons, List.not_mem_nil, or_false, forall_eq_or_imp, forall_eq, List.getD_cons_succ, List.getD_cons_zero, VIs, VSl, VAny] at hV
    obtain ⟨e0, e1, e2, e3, e4, e5, e6, e7, e8, ⟨A9, c9, e9, h9⟩, e10, e11, e12, ⟨A13, c13, e13, h13⟩, e14, e15, e16, e17⟩ := hV
    obtain ⟨q0, q1⟩ := hS.1.two; have hcN : w'.cell? ⟨gN, 0, none⟩ = some (.int .i64 (nrmL P sq xs)) := (mkI_at (hN.below hS.2.2) (pw_pos n)).1; have hposI : 0 < pw n := pw_pos n
    go_simp
    exact hK.out _ _ _ rfl rfl rfl (Below.refl _ _)
  simp only [List.setIfInBounds_toArray, List.set_cons_zero, List.set_cons_succ]
  refine obs_step (Eq.trans (by simp only [List.getElem?_toArray, List.getElem?_cons_succ, List.getElem?_cons_zero]; exact rfl) rfl) rfl (fun w' hS hV K hK => ?_) ?_
  · simp only [List.mem_cons, List.not_mem_nil, or_false, forall_eq_or_imp, forall_eq, List.getD_cons_succ, List.getD_cons_zero, VIs, VSl, VAny] at hV
    obtain ⟨e0, e1, e2, e3, e4, e5, e6, e7, e8, ⟨A9, c9, e9, h9⟩, e10, e11, e12, ⟨A13, c13, e13, h13⟩, e14, e15, e16, e17, e18, e19⟩ := hV
    obtain ⟨q0, q1⟩ := hS.1.two; have hcN : w'.cell? ⟨gN, 0, none⟩ = some (.int .i64 (nrmL P sq xs)) := (mkI_at (hN.below hS.2.2) (pw_pos n)).1; have hposI : 0 < pw n := pw_pos n
    go_simp
    refine (l07Even_any P A n c _ _ xs _ hn (hx.below hS.2.1)).mono ?_
    rintro e w1 ⟨rfl, hb⟩
    exact hK.out _ _ _ rfl rfl rfl hb
  simp only [List.setIfInBounds_toArray, List.set_cons_zero, List.set_cons_succ]
  refine obs_step (Eq.trans (by simp only [List.getElem?_toArray, List.getElem?_cons_succ, List.getElem?_cons_zero]; exact rfl) rfl) rfl (fun w' hS hV K hK => ?_) ?_
  · simp only [List.mem_cons, List.not_mem_nil, or_false, forall_eq_or_imp, forall_eq, List.getD_cons_succ, List.getD_cons_zero, VIs, VSl, VAny] at hV
    obtain ⟨e0, e1, e2, e3, e4, e5, e6, e7, e8, ⟨A9, c9, e9, h9⟩, e10, e11, e12, ⟨A13, c13, e13, h13⟩, e14, e15, e16, e17, e18, e19, e20⟩ := hV
    obtain ⟨q0, q1⟩ := hS.1.two; have hcN : w'.cell? ⟨gN, 0, none⟩ = some (.int .i64 (nrmL P sq xs)) := (mkI_at (hN.below hS.2.2) (pw_pos n)).1; have hposI : 0 < pw n := pw_pos n
    go_simp
    exact hK.out _ _ _ rfl rfl rfl (Below.refl _ _)
  simp only [List.setIfInBounds_toArray, List.set_cons_zero, List.set_cons_succ]
  refine obs_step (Eq.trans (by simp only [List.getElem?_toArray, List.getElem?_cons_succ, List.getElem?_cons_zero]; exact rfl) rfl) rfl (fun w' hS hV K hK => ?_) ?_
  · simp only [List.mem_cons, List.not_mem_nil, or_false, forall_eq_or_imp, forall_eq, List.getD_cons_succ, List.getD_cons_zero, VIs, VSl, VAny] at hV
    obtain ⟨e0, e1, e2, e3, e4, e5, e6, e7, e8, ⟨A9, c9, e9, h9⟩, e10, e11, e12, ⟨A13, c13, e13, h13⟩, e14, e15, e16, e17, e18, e19, e20, e21⟩ := hV
    obtain ⟨q0, q1⟩ := hS.1.two; have hcN : w'.cell? ⟨gN, 0, none⟩ = some (.int .i64 (nrmL P sq xs)) := (mkI_at (hN.below hS.2.2) (pw_pos n)).1; have hposI : 0 < pw n := pw_pos n
    go_simp
    exact hK.out _ _ _ rfl rfl rfl (Below.refl _ _)
  simp only [List.setIfInBounds_toArray, List.set_cons_zero, List.set_cons_succ]
  refine fun w' hS hV => ?_
  have hV := fun i hi => hV i (List.mem_range.1 hi)
  simp only [List.range, List.range.loop, List.mem_cons, List.not_mem_nil, or_false, forall_eq_or_imp, forall_eq, List.getD_cons_succ, List.getD_cons_zero, VIs, VSl, VAny] at hV
  obtain ⟨e0, e1, e2, e3, e4, e5, e6, e7, e8, ⟨A9, c9, e9, h9⟩, e10, e11, e12, ⟨A13, c13, e13, h13⟩, e14, e15, e16, e17, e18, e19, e20, e21, e22⟩ := hV
  simp only [e0, e1, e2, e3, e4, e5, e6, e7, e8, e9, e10, e11, e12, e13, e14, e15, e16, e17, e18, e19, e20, e21, e22]
  clear e0 e1 e2 e3 e4 e5 e6 e7 e8 e9 e10 e11 e12 e13 e14 e15 e16 e17 e18 e19 e20 e21 e22
  refine wpAny_done (by kernel_rfl) ?_ _
  go_wp2
  go_ret
  exact ⟨ret_bool (by unfold versB; rw [H1.out, H2.out, H3.out]; rfl), hS.2.1⟩
set_option maxHeartbeats 3200000 in
set_option maxRecDepth 8000 in
theorem l07Is_D (P : Int) (A : Option Addr) (n c : Nat) (sq : List Int) (X : Option Addr) (cx : Nat) (xs : List Int) (w : World) (hp : 2 ≤ P) (hp2 : P ≤ 13) (hn : n ≤ 6) (ha : Rd w A n (ints sq)) (hs : NumsL P sq) (hx : Rd w X (pw n) (ints xs)) (hxs : NumsL P xs) (hcx : pw n ≤ cx) (_HP : isP P = true) (h1 : ¬ nrmL P sq xs = 0) (h2 : onlyL (mulL P sq xs (revL P xs)) 0 = true) (h3 : mixB (gradesL xs) = false) :
    Calls Tryz.prog 184 #[.agg #[.int .i64 P, .slice A n c], .slice X (pw n) cx] w fun e w' => e = .returned (.bool (versB P sq n xs)) ∧ Below w.heap.size w w' := by
  have hB0 : Below w.heap.size w (w.alloc (.cells #[.int .i64 P, .slice A n c] 26)) := (Below.refl _ _).alloc (Nat.le_refl _) _
  have k0 : Blk (w.alloc (.cells #[.int .i64 P, .slice A n c] 26)) w.heap.size 26 #[.int .i64 P, .slice A n c] := Blk.new _ _ _
  have HPW : pw n ≤ 65536 := Nat.le_trans (pw_le (show n ≤ 10 by omega)) (by decide)
  have HPW64 : pw n ≤ 64 := pw_le hn
  have HNN := mulL_nums (show 0 < P by omega) sq xs (revL P xs)
  have HSC : Hid (decide (mulL P sq xs (revL P xs) = scaleL P (bladeL n 0) (nrmL P sq xs)) = onlyL (mulL P sq xs (revL P xs)) 0) := Lib.hid (onlyL_scalar hp hn (by rw [mulL_len, hx.lenI]) HNN)
  have HEV := Lib.hid (evnV_neg (gs := gradesL xs) fun g hg => (gradesL_range xs g hg).1)
  have b1 : (nrmL P sq xs == 0) = false := by simp [h1]
  have H1 := Lib.hid b1
  have H2 := Lib.hid h2
  have H3 := Lib.hid h3
  have HO : Hid (decide (mulL P sq xs (revL P xs) = scaleL P (bladeL n 0) (nrmL P sq xs)) = true) := Lib.hid (HSC.out.trans h2)
  have hev : decide (evnV (gradesL xs) < 0) = false := HEV.out.trans h3
  clear h1 h2 h3
  go_enter Tryz.func184, Tryz.ntmps184
  go_wp2_with fail
  refine (l04Reverse_any P A n c X (pw n) cx xs _ hp hp2 HPW64 (hx.below hB0) hxs).mono ?_
  rintro e w1 ⟨Bk, cB, rfl, hBk⟩
  have hB1 := hB0.trans (hBk.b.mono (by simp))
  have k1 := k0.below hBk.b k0.lt
  obtain ⟨q0, q1⟩ := k1.two
  clear k0 hB0
  go_wp2_with fail
  refine (l04Times_any P A n c sq X cx xs Bk cB _ _ hp hp2 hn (ha.below hB1) hs (hx.below hB1) hxs hBk.rd (sgnL_nums (by omega) revT hxs)).mono ?_
  rintro e w2 ⟨N, cN, rfl, hN⟩
  have hB2 := hB1.trans (hN.b.mono hB1.size)
  have k2 := k1.below hN.b k1.lt
  have hBk2 := hBk.below hN.b
  rcases hN.2.form with ⟨_, hz⟩ | ⟨gN, hgN, _, _⟩
  · exact absurd hz (by have := pw_pos n; omega)
  subst hgN
  clear q0 q1 k1 hB1 hBk
  go_wp2
  refine wp_obs 23 [[], [0], [0, 1], [0, 1, 2], [0, 1, 2, 3], [0, 1, 2, 3, 4], [0, 1, 2, 3, 4], [0, 1, 2, 3, 4, 6], [0, 1, 2, 3, 4], [0, 1, 2, 3, 4, 8], [0, 1, 2, 3, 4], [0, 1, 2, 3, 4, 10], [0, 1, 2, 3, 4, 10, 11], [0, 1, 2, 3, 4, 6, 7, 8, 9, 10, 11, 12], [0, 1, 2, 3, 4, 5, 6, 7, 8, 9, 10, 11, 12, 13], [0, 1, 2, 3, 4, 5, 6, 7, 8, 9, 10, 11, 12, 13, 14], [0, 1, 2, 3, 4, 5, 6, 7, 8, 9, 10, 11, 12, 13, 14, 15], [0, 1, 2, 3, 4, 5, 6, 7, 8, 9, 10, 11, 12, 13, 14, 15, 16], [0, 1, 2, 3, 4, 5, 6, 7, 8, 9, 10, 11, 12, 13, 14, 15, 16, 17], [0, 1, 2, 3, 4, 5, 6, 7, 8, 9, 10, 11, 12, 13, 14, 15, 16, 17], [0, 1, 2, 3, 4, 5, 6, 7, 8, 9, 10, 11, 12, 13, 14, 15, 16, 17, 18, 19], [0, 1, 2, 3, 4, 5, 6, 7, 8, 9, 10, 11, 12, 13, 14, 15, 16, 17, 18, 19, 20], [0, 1, 2, 3, 4, 5, 6, 7, 8, 9, 10, 11, 12, 13, 14, 15, 16, 17, 18, 19, 20, 21]] [VIs (.slice (some ⟨gN, 0, none⟩) (pw n) cN), VIs (.pointer (some ⟨gN, 0, none⟩)), VIs (.int .i64 (nrmL P sq xs)), VIs (.bool false), VIs (.bool false), VIs (.slice (some ⟨gN, 0, none⟩) (pw n) cN), VIs (.pointer (some ⟨w.heap.size, 0, none⟩)), VIs (.int .i64 P), VIs (.agg #[.int .i64 P, .slice A n c]), VSl w (pw n) (bladeL n 0), VIs (.slice (some ⟨gN, 0, none⟩) (pw n) cN), VIs (.pointer (some ⟨gN, 0, none⟩)), VIs (.int .i64 (nrmL P sq xs)), VSl w (pw n) (scaleL P (bladeL n 0) (nrmL P sq xs)), VIs (.bool true), VIs (.bool false), VIs (.bool false), VIs (.bool false), VIs (.agg #[.int .i64 P, .slice A n c]), VIs (.slice X (pw n) cx), VIs (.int .i64 (evnV (gradesL xs))), VIs (.bool false), VIs (.bool false)] (fun w' => Blk w' w.heap.size 26 #[.int .i64 P, .slice A n c] ∧ Below w.heap.size w w' ∧ Below w2.heap.size w2 w') (by kernel_rfl) (by kernel_rfl) (fun _ _ h hb => ⟨h.1.below hb h.1.lt, h.2.1.trans (hb.mono h.2.1.size), h.2.2.trans (hb.mono h.2.2.size)⟩) (⟨k2.drew, hB2.drew, (Below.refl _ _).drew⟩) (fun x => ?_)
  refine obs_step (Eq.trans (by simp only [List.getElem?_toArray, List.getElem?_cons_zero]; exact rfl) rfl) rfl (fun w' hS hV K hK => ?_) ?_
  · obtain ⟨q0, q1⟩ := hS.1.two; have hcN : w'.cell? ⟨gN, 0, none⟩ = some (.int .i64 (nrmL P sq xs)) := (mkI_at (hN.below hS.2.2) (pw_pos n)).1; have hposI : 0 < pw n := pw_pos n
    go_simp
    exact hK.out _ _ _ rfl rfl rfl (Below.refl _ _)
  simp only [List.setIfInBounds_toArray, List.set_cons_zero, List.set_cons_succ]
  refine obs_step (Eq.trans (by simp only [List.getElem?_toArray, List.getElem?_cons_succ, List.getElem?_cons_zero]; exact rfl) rfl) rfl (fun w' hS hV K hK => ?_) ?_
  · simp only [List.mem_cons, List.not_mem_nil, or_false, forall_eq, List.getD_cons_succ, List.getD_cons_zero, VIs, VSl, VAny] at hV
    obtain e0 := hV
    obtain ⟨q0, q1⟩ := hS.1.two; have hcN : w'.cell? ⟨gN, 0, none⟩ = some (.int .i64 (nrmL P sq xs)) := (mkI_at (hN.below hS.2.2) (pw_pos n)).1; have hposI : 0 < pw n := pw_pos n
    go_simp
    exact hK.out _ _ _ rfl rfl rfl (Below.refl _ _)
  simp only [List.setIfInBounds_toArray, List.set_cons_zero, List.set_cons_succ]
  refine obs_step (Eq.trans (by simp only [List.getElem?_toArray, List.getElem?_cons_succ, List.getElem?_cons_zero]; exact rfl) rfl) rfl (fun w' hS hV K hK => ?_) ?_
  · simp only [List.mem_cons, List.not_mem_nil, or_false, forall_eq_or_imp, forall_eq, List.getD_cons_succ, List.getD_cons_zero, VIs, VSl, VAny] at hV
    obtain ⟨e0, e1⟩ := hV
    obtain ⟨q0, q1⟩ := hS.1.two; have hcN : w'.cell? ⟨gN, 0, none⟩ = some (.int .i64 (nrmL P sq xs)) := (mkI_at (hN.below hS.2.2) (pw_pos n)).1; have hposI : 0 < pw n := pw_pos n
    go_simp
    exact hK.out _ _ _ rfl rfl rfl (Below.refl _ _)
  simp only [List.setIfInBounds_toArray, List.set_cons_zero, List.set_cons_succ]
  refine obs_step (Eq.trans (by simp only [List.getElem?_toArray, List.getElem?_cons_succ, List.getElem?_cons_zero]; exact rfl) rfl) rfl (fun w' hS hV K hK => ?_) ?_
  · simp only [List.mem_cons, List.not_mem_nil, or_false, forall_eq_or_imp, forall_eq, List.getD_cons_succ, List.getD_cons_zero, VIs, VSl, VAny] at hV
    obtain ⟨e0, e1, e2⟩ := hV
    obtain ⟨q0, q1⟩ := hS.1.two; have hcN : w'.cell? ⟨gN, 0, none⟩ = some (.int .i64 (nrmL P sq xs)) := (mkI_at (hN.below hS.2.2) (pw_pos n)).1; have hposI : 0 < pw n := pw_pos n
    go_simp
    exact hK.out _ _ _ rfl rfl rfl (Below.refl _ _)
  simp only [List.setIfInBounds_toArray, List.set_cons_zero, List.set_cons_succ]
  refine obs_step (Eq.trans (by simp only [List.getElem?_toArray, List.getElem?_cons_succ, List.getElem?_cons_zero]; exact rfl) rfl) rfl (fun w' hS hV K hK => ?_) ?_
  · simp only [List.mem_cons, List.not_mem_nil, or_false, forall_eq_or_imp, forall_eq, List.getD_cons_succ, List.getD_cons_zero, VIs, VSl, VAny] at hV
    obtain ⟨e0, e1, e2, e3⟩ := hV
    obtain ⟨q0, q1⟩ := hS.1.two; have hcN : w'.cell? ⟨gN, 0, none⟩ = some (.int .i64 (nrmL P sq xs)) := (mkI_at (hN.below hS.2.2) (pw_pos n)).1; have hposI : 0 < pw n := pw_pos n
    go_simp
    exact hK.out _ _ _ rfl rfl rfl (Below.refl _ _)
  simp only [List.setIfInBounds_toArray, List.set_cons_zero, List.set_cons_succ]
  refine obs_step (Eq.trans (by simp only [List.getElem?_toArray, List.getElem?_cons_succ, List.getElem?_cons_zero]; exact rfl) rfl) rfl (fun w' hS hV K hK => ?_) ?_
  · simp only [List.mem_cons, List.not_mem_nil, or_false, forall_eq_or_imp, forall_eq, List.getD_cons_succ, List.getD_cons_zero, VIs, VSl, VAny] at hV
    obtain ⟨e0, e1, e2, e3, e4⟩ := hV
    obtain ⟨q0, q1⟩ := hS.1.two; have hcN : w'.cell? ⟨gN, 0, none⟩ = some (.int .i64 (nrmL P sq xs)) := (mkI_at (hN.below hS.2.2) (pw_pos n)).1; have hposI : 0 < pw n := pw_pos n
    go_simp
    exact hK.out _ _ _ rfl rfl rfl (Below.refl _ _)
  simp only [List.setIfInBounds_toArray, List.set_cons_zero, List.set_cons_succ]
  refine obs_step (Eq.trans (by simp only [List.getElem?_toArray, List.getElem?_cons_succ, List.getElem?_cons_zero]; exact rfl) rfl) rfl (fun w' hS hV K hK => ?_) ?_
  · simp only [List.mem_cons, List.not_mem_nil, or_false, forall_eq_or_imp, forall_eq, List.getD_cons_succ, List.getD_cons_zero, VIs, VSl, VAny] at hV
    obtain ⟨e0, e1, e2, e3, e4⟩ := hV
    obtain ⟨q0, q1⟩ := hS.1.two; have hcN : w'.cell? ⟨gN, 0, none⟩ = some (.int .i64 (nrmL P sq xs)) := (mkI_at (hN.below hS.2.2) (pw_pos n)).1; have hposI : 0 < pw n := pw_pos n
    go_simp
    exact hK.out _ _ _ rfl rfl rfl (Below.refl _ _)
  simp only [List.setIfInBounds_toArray, List.set_cons_zero, List.set_cons_succ]
  refine obs_step (Eq.trans (by simp only [List.getElem?_toArray, List.getElem?_cons_succ, List.getElem?_cons_zero]; exact rfl) rfl) rfl (fun w' hS hV K hK => ?_) ?_
  · simp only [List.mem_cons, List.not_mem_nil, or_false, forall_eq_or_imp, forall_eq, List.getD_cons_succ, List.getD_cons_zero, VIs, VSl, VAny] at hV
    obtain ⟨e0, e1, e2, e3, e4, e6⟩ := hV
    obtain ⟨q0, q1⟩ := hS.1.two; have hcN : w'.cell? ⟨gN, 0, none⟩ = some (.int .i64 (nrmL P sq xs)) := (mkI_at (hN.below hS.2.2) (pw_pos n)).1; have hposI : 0 < pw n := pw_pos n
    go_simp
    exact hK.out _ _ _ rfl rfl rfl (Below.refl _ _)
  simp only [List.setIfInBounds_toArray, List.set_cons_zero, List.set_cons_succ]
  refine obs_step (Eq.trans (by simp only [List.getElem?_toArray, List.getElem?_cons_succ, List.getElem?_cons_zero]; exact rfl) rfl) rfl (fun w' hS hV K hK => ?_) ?_
  · simp only [List.mem_cons, List.not_mem_nil, or_false, forall_eq_or_imp, forall_eq, List.getD_cons_succ, List.getD_cons_zero, VIs, VSl, VAny] at hV
    obtain ⟨e0, e1, e2, e3, e4⟩ := hV
    obtain ⟨q0, q1⟩ := hS.1.two; have hcN : w'.cell? ⟨gN, 0, none⟩ = some (.int .i64 (nrmL P sq xs)) := (mkI_at (hN.below hS.2.2) (pw_pos n)).1; have hposI : 0 < pw n := pw_pos n
    go_simp
    exact hK.out _ _ _ rfl rfl rfl (Below.refl _ _)
  simp only [List.setIfInBounds_toArray, List.set_cons_zero, List.set_cons_succ]
  refine obs_step (Eq.trans (by simp only [List.getElem?_toArray, List.getElem?_cons_succ, List.getElem?_cons_zero]; exact rfl) rfl) rfl (fun w' hS hV K hK => ?_) ?_
  · simp only [List.mem_cons, List.not_mem_nil, or_false, forall_eq_or_imp, forall_eq, List.getD_cons_succ, List.getD_cons_zero, VIs, VSl, VAny] at hV
    obtain ⟨e0, e1, e2, e3, e4, e8⟩ := hV
    obtain ⟨q0, q1⟩ := hS.1.two; have hcN : w'.cell? ⟨gN, 0, none⟩ = some (.int .i64 (nrmL P sq xs)) := (mkI_at (hN.below hS.2.2) (pw_pos n)).1; have hposI : 0 < pw n := pw_pos n
    go_simp
    refine (l04One_any P A n c _ (by omega)).mono ?_
    rintro e w1 ⟨A2, c2, rfl, hM⟩
    exact hK.out _ _ _ rfl rfl ⟨_, _, rfl, hM.after hS.2.1⟩ hM.b
  simp only [List.setIfInBounds_toArray, List.set_cons_zero, List.set_cons_succ]
  refine obs_step (Eq.trans (by simp only [List.getElem?_toArray, List.getElem?_cons_succ, List.getElem?_cons_zero]; exact rfl) rfl) rfl (fun w' hS hV K hK => ?_) ?_
  · simp only [List.mem_cons, List.not_mem_nil, or_false, forall_eq_or_imp, forall_eq, List.getD_cons_succ, List.getD_cons_zero, VIs, VSl, VAny] at hV
    obtain ⟨e0, e1, e2, e3, e4⟩ := hV
    obtain ⟨q0, q1⟩ := hS.1.two; have hcN : w'.cell? ⟨gN, 0, none⟩ = some (.int .i64 (nrmL P sq xs)) := (mkI_at (hN.below hS.2.2) (pw_pos n)).1; have hposI : 0 < pw n := pw_pos n
    go_simp
    exact hK.out _ _ _ rfl rfl rfl (Below.refl _ _)
  simp only [List.setIfInBounds_toArray, List.set_cons_zero, List.set_cons_succ]
  refine obs_step (Eq.trans (by simp only [List.getElem?_toArray, List.getElem?_cons_succ, List.getElem?_cons_zero]; exact rfl) rfl) rfl (fun w' hS hV K hK => ?_) ?_
  · simp only [List.mem_cons, List.not_mem_nil, or_false, forall_eq_or_imp, forall_eq, List.getD_cons_succ, List.getD_cons_zero, VIs, VSl, VAny] at hV
    obtain ⟨e0, e1, e2, e3, e4, e10⟩ := hV
    obtain ⟨q0, q1⟩ := hS.1.two; have hcN : w'.cell? ⟨gN, 0, none⟩ = some (.int .i64 (nrmL P sq xs)) := (mkI_at (hN.below hS.2.2) (pw_pos n)).1; have hposI : 0 < pw n := pw_pos n
    go_simp
    exact hK.out _ _ _ rfl rfl rfl (Below.refl _ _)
  simp only [List.setIfInBounds_toArray, List.set_cons_zero, List.set_cons_succ]
  refine obs_step (Eq.trans (by simp only [List.getElem?_toArray, List.getElem?_cons_succ, List.getElem?_cons_zero]; exact rfl) rfl) rfl (fun w' hS hV K hK => ?_) ?_
  · simp only [List.mem_cons, List.not_mem_nil, or_false, forall_eq_or_imp, forall_eq, List.getD_cons_succ, List.getD_cons_zero, VIs, VSl, VAny] at hV
    obtain ⟨e0, e1, e2, e3, e4, e10, e11⟩ := hV
    obtain ⟨q0, q1⟩ := hS.1.two; have hcN : w'.cell? ⟨gN, 0, none⟩ = some (.int .i64 (nrmL P sq xs)) := (mkI_at (hN.below hS.2.2) (pw_pos n)).1; have hposI : 0 < pw n := pw_pos n
    go_simp
    exact hK.out _ _ _ rfl rfl rfl (Below.refl _ _)
  simp only [List.setIfInBounds_toArray, List.set_cons_zero, List.set_cons_succ]
  refine obs_step (Eq.trans (by simp only [List.getElem?_toArray, List.getElem?_cons_succ, List.getElem?_cons_zero]; exact rfl) rfl) rfl (fun w' hS hV K hK => ?_) ?_
  · simp only [List.mem_cons, List.not_mem_nil, or_false, forall_eq_or_imp, forall_eq, List.getD_cons_succ, List.getD_cons_zero, VIs, VSl, VAny] at hV
    obtain ⟨e0, e1, e2, e3, e4, e6, e7, e8, ⟨A9, c9, e9, h9⟩, e10, e11, e12⟩ := hV
    obtain ⟨q0, q1⟩ := hS.1.two; have hcN : w'.cell? ⟨gN, 0, none⟩ = some (.int .i64 (nrmL P sq xs)) := (mkI_at (hN.below hS.2.2) (pw_pos n)).1; have hposI : 0 < pw n := pw_pos n
    go_simp
    refine (l02Scale_any P _ (pw n) _ (nrmL P sq xs) (bladeL n 0) _ hp hp2 HPW h9.rd (bladeL_nums hp n 0) (by have := (nrmL_small hp sq xs); omega) (by have := (nrmL_small hp sq xs); omega)).mono ?_
    rintro e w1 ⟨A2, c2, rfl, hM⟩
    exact hK.out _ _ _ rfl rfl ⟨_, _, rfl, hM.after hS.2.1⟩ hM.b
  simp only [List.setIfInBounds_toArray, List.set_cons_zero, List.set_cons_succ]
  refine obs_step (Eq.trans (by simp only [List.getElem?_toArray, List.getElem?_cons_succ, List.getElem?_cons_zero]; exact rfl) rfl) rfl (fun w' hS hV K hK => ?_) ?_
  · simp only [List.mem_cons, List.not_mem_nil, or_false, forall_eq_or_imp, forall_eq, List.getD_cons_succ, List.getD_cons_zero, VIs, VSl, VAny] at hV
    obtain ⟨e0, e1, e2, e3, e4, e5, e6, e7, e8, ⟨A9, c9, e9, h9⟩, e10, e11, e12, ⟨A13, c13, e13, h13⟩⟩ := hV
    obtain ⟨q0, q1⟩ := hS.1.two; have hcN : w'.cell? ⟨gN, 0, none⟩ = some (.int .i64 (nrmL P sq xs)) := (mkI_at (hN.below hS.2.2) (pw_pos n)).1; have hposI : 0 < pw n := pw_pos n
    go_simp
    refine (l01Same_b _ _ _ _ _ _ _ _ _ (by omega) (by omega) (hN.rd.below hS.2.2) h13.rd HO.out).mono ?_
    rintro e w1 ⟨rfl, j, rfl⟩
    exact hK.out _ _ _ rfl rfl rfl (below_drewN (Below.refl _ _) _)
  simp only [List.setIfInBounds_toArray, List.set_cons_zero, List.set_cons_succ]
  refine obs_step (Eq.trans (by simp only [List.getElem?_toArray, List.getElem?_cons_succ, List.getElem?_cons_zero]; exact rfl) rfl) rfl (fun w' hS hV K hK => ?_) ?_
  · simp only [List.mem_cons, List.not_mem_nil, or_false, forall_eq_or_imp, forall_eq, List.getD_cons_succ, List.getD_cons_zero, VIs, VSl, VAny] at hV
    obtain ⟨e0, e1, e2, e3, e4, e5, e6, e7, e8, ⟨A9, c9, e9, h9⟩, e10, e11, e12, ⟨A13, c13, e13, h13⟩, e14⟩ := hV
    obtain ⟨q0, q1⟩ := hS.1.two; have hcN : w'.cell? ⟨gN, 0, none⟩ = some (.int .i64 (nrmL P sq xs)) := (mkI_at (hN.below hS.2.2) (pw_pos n)).1; have hposI : 0 < pw n := pw_pos n
    go_simp
    exact hK.out _ _ _ rfl rfl rfl (Below.refl _ _)
  simp only [List.setIfInBounds_toArray, List.set_cons_zero, List.set_cons_succ]
  refine obs_step (Eq.trans (by simp only [List.getElem?_toArray, List.getElem?_cons_succ, List.getElem?_cons_zero]; exact rfl) rfl) rfl (fun w' hS hV K hK => ?_) ?_
  · simp only [List.mem_cons, List.not_mem_nil, or_false, forall_eq_or_imp, forall_eq, List.getD_cons_succ, List.getD_cons_zero, VIs, VSl, VAny] at hV
    obtain ⟨e0, e1, e2, e3, e4, e5, e6, e7, e8, ⟨A9, c9, e9, h9⟩, e10, e11, e12, ⟨A13, c13, e13, h13⟩, e14, e15⟩ := hV
    obtain ⟨q0, q1⟩ := hS.1.two; have hcN : w'.cell? ⟨gN, 0, none⟩ = some (.int .i64 (nrmL P sq xs)) := (mkI_at (hN.below hS.2.2) (pw_pos n)).1; have hposI : 0 < pw n := pw_pos n
    go_simp
    exact hK.out _ _ _ rfl rfl rfl (Below.refl _ _)
  simp only [List.setIfInBounds_toArray, List.set_cons_zero, List.set_cons_succ]
  refine obs_step (Eq.trans (by simp only [List.getElem?_toArray, List.getElem?_cons_succ, List.getElem?_cons_zero]; exact rfl) rfl) rfl (fun w' hS hV K hK => ?_) ?_
  · simp only [List.mem_cons, List.not_mem_nil, or_false, forall_eq_or_imp, forall_eq, List.getD_cons_succ, List.getD_cons_zero, VIs, VSl, VAny] at hV
    obtain ⟨e0, e1, e2, e3, e4, e5, e6, e7, e8, ⟨A9, c9, e9, h9⟩, e10, e11, e12, ⟨A13, c13, e13, h13⟩, e14, e15, e16⟩ := hV
    obtain ⟨q0, q1⟩ := hS.1.two; have hcN : w'.cell? ⟨gN, 0, none⟩ = some (.int .i64 (nrmL P sq xs)) := (mkI_at (hN.below hS.2.2) (pw_pos n)).1; have hposI : 0 < pw n := pw_pos n
    go_simp
    exact hK.out _ _ _ rfl rfl rfl (Below.refl _ _)
  simp only [List.setIfInBounds_toArray, List.set_cons_zero, List.set_cons_succ]
  refine obs_step (Eq.trans (by simp only [List.getElem?_toArray, List.getElem?_cons_succ, List.getElem?_cons_zero]; exact rfl) rfl) rfl (fun w' hS hV K hK => ?_) ?_
  · simp only [List.mem_cons, List.not_mem_nil, or_false, forall_eq_or_imp, forall_eq, List.getD_cons_succ, List.getD_cons_zero, VIs, VSl, VAny] at hV
    obtain ⟨e0, e1, e2, e3, e4, e5, e6, e7, e8, ⟨A9, c9, e9, h9⟩, e10, e11, e12, ⟨A13, c13, e13, h13⟩, e14, e15, e16, e17⟩ := hV
    obtain ⟨q0, q1⟩ := hS.1.two; have hcN : w'.cell? ⟨gN, 0, none⟩ = some (.int .i64 (nrmL P sq xs)) := (mkI_at (hN.below hS.2.2) (pw_pos n)).1; have hposI : 0 < pw n := pw_pos n
    go_simp
    exact hK.out _ _ _ rfl rfl rfl (Below.refl _ _)
  simp only [List.setIfInBounds_toArray, List.set_cons_zero, List.set_cons_succ]
  refine obs_step (Eq.trans (by simp only [List.getElem?_toArray, List.getElem?_cons_succ, List.getElem?_cons_zero]; exact rfl) rfl) rfl (fun w' hS hV K hK => ?_) ?_
  · simp only [List.mem_cons, List.not_mem_nil, or_false, forall_eq_or_imp, forall_eq, List.getD_cons_succ, List.getD_cons_zero, VIs, VSl, VAny] at hV
    obtain ⟨e0, e1, e2, e3, e4, e5, e6, e7, e8, ⟨A9, c9, e9, h9⟩, e10, e11, e12, ⟨A13, c13, e13, h13⟩, e14, e15, e16, e17⟩ := hV
    obtain ⟨q0, q1⟩ := hS.1.two; have hcN : w'.cell? ⟨gN, 0, none⟩ = some (.int .i64 (nrmL P sq xs)) := (mkI_at (hN.below hS.2.2) (pw_pos n)).1; have hposI : 0 < pw n := pw_pos n
    go_simp
    exact hK.out _ _ _ rfl rfl rfl (Below.refl _ _)
  simp only [List.setIfInBounds_toArray, List.set_cons_zero, List.set_cons_succ]
  refine obs_step (Eq.trans (by simp only [List.getElem?_toArray, List.getElem?_cons_succ, List.getElem?_cons_zero]; exact rfl) rfl) rfl (fun w' hS hV K hK => ?_) ?_
  · simp only [List.mem_cons, List.not_mem_nil, or_false, forall_eq_or_imp, forall_eq, List.getD_cons_succ, List.getD_cons_zero, VIs, VSl, VAny] at hV
    obtain ⟨e0, e1, e2, e3, e4, e5, e6, e7, e8, ⟨A9, c9, e9, h9⟩, e10, e11, e12, ⟨A13, c13, e13, h13⟩, e14, e15, e16, e17, e18, e19⟩ := hV
    obtain ⟨q0, q1⟩ := hS.1.two; have hcN : w'.cell? ⟨gN, 0, none⟩ = some (.int .i64 (nrmL P sq xs)) := (mkI_at (hN.below hS.2.2) (pw_pos n)).1; have hposI : 0 < pw n := pw_pos n
    go_simp
    refine (l07Even_any P A n c _ _ xs _ hn (hx.below hS.2.1)).mono ?_
    rintro e w1 ⟨rfl, hb⟩
    exact hK.out _ _ _ rfl rfl rfl hb
  simp only [List.setIfInBounds_toArray, List.set_cons_zero, List.set_cons_succ]
  refine obs_step (Eq.trans (by simp only [List.getElem?_toArray, List.getElem?_cons_succ, List.getElem?_cons_zero]; exact rfl) rfl) rfl (fun w' hS hV K hK => ?_) ?_
  · simp only [List.mem_cons, List.not_mem_nil, or_false, forall_eq_or_imp, forall_eq, List.getD_cons_succ, List.getD_cons_zero, VIs, VSl, VAny] at hV
    obtain ⟨e0, e1, e2, e3, e4, e5, e6, e7, e8, ⟨A9, c9, e9, h9⟩, e10, e11, e12, ⟨A13, c13, e13, h13⟩, e14, e15, e16, e17, e18, e19, e20⟩ := hV
    obtain ⟨q0, q1⟩ := hS.1.two; have hcN : w'.cell? ⟨gN, 0, none⟩ = some (.int .i64 (nrmL P sq xs)) := (mkI_at (hN.below hS.2.2) (pw_pos n)).1; have hposI : 0 < pw n := pw_pos n
    go_simp
    exact hK.out _ _ _ rfl rfl rfl (Below.refl _ _)
  simp only [List.setIfInBounds_toArray, List.set_cons_zero, List.set_cons_succ]
  refine obs_step (Eq.trans (by simp only [List.getElem?_toArray, List.getElem?_cons_succ, List.getElem?_cons_zero]; exact rfl) rfl) rfl (fun w' hS hV K hK => ?_) ?_
  · simp only [List.mem_cons, List.not_mem_nil, or_false, forall_eq_or_imp, forall_eq, List.getD_cons_succ, List.getD_cons_zero, VIs, VSl, VAny] at hV
    obtain ⟨e0, e1, e2, e3, e4, e5, e6, e7, e8, ⟨A9, c9, e9, h9⟩, e10, e11, e12, ⟨A13, c13, e13, h13⟩, e14, e15, e16, e17, e18, e19, e20, e21⟩ := hV
    obtain ⟨q0, q1⟩ := hS.1.two; have hcN : w'.cell? ⟨gN, 0, none⟩ = some (.int .i64 (nrmL P sq xs)) := (mkI_at (hN.below hS.2.2) (pw_pos n)).1; have hposI : 0 < pw n := pw_pos n
    go_simp
    exact hK.out _ _ _ rfl rfl rfl (Below.refl _ _)
  simp only [List.setIfInBounds_toArray, List.set_cons_zero, List.set_cons_succ]
  refine fun w' hS hV => ?_
  have hV := fun i hi => hV i (List.mem_range.1 hi)
  simp only [List.range, List.range.loop, List.mem_cons, List.not_mem_nil, or_false, forall_eq_or_imp, forall_eq, List.getD_cons_succ, List.getD_cons_zero, VIs, VSl, VAny] at hV
  obtain ⟨e0, e1, e2, e3, e4, e5, e6, e7, e8, ⟨A9, c9, e9, h9⟩, e10, e11, e12, ⟨A13, c13, e13, h13⟩, e14, e15, e16, e17, e18, e19, e20, e21, e22⟩ := hV
  simp only [e0, e1, e2, e3, e4, e5, e6, e7, e8, e9, e10, e11, e12, e13, e14, e15, e16, e17, e18, e19, e20, e21, e22]
  clear e0 e1 e2 e3 e4 e5 e6 e7 e8 e9 e10 e11 e12 e13 e14 e15 e16 e17 e18 e19 e20 e21 e22
  refine wpAny_done (by kernel_rfl) ?_ _
  have hB3 := hS.2.1
  have k3 := hS.1
  have hBk3 := hBk2.below hS.2.2
  clear hS k2 hB2 hBk2 hN
  have hmk := make_i (P := Tryz.prog) 24 2 Tryz.underlying24 info_i n (by omega)
  go_wp2_with fail
  go_loopw [7, 8, 9] (fun i _ _ wr => ∃ k : Nat, k ≤ n ∧ i = .int .i64 k ∧ (List.range k).all (fun i => onlyL (imgL P sq n xs i) 1) = true ∧ Blk wr w.heap.size 26 #[.int .i64 P, .slice A n c] ∧ Below w.heap.size w wr ∧ Below w'.heap.size w' wr) (fun i _ _ _ => n - (intOf i).toNat)
  case atStart => exact ⟨0, by omega, rfl, rfl, k3, hB3, Below.refl _ _⟩
  case round =>
    obtain ⟨k, hk, rfl, hal, hk3, hBr, hB5r⟩ := hrel
    have HAL := Lib.hid hal
    clear hal k3 hB3
    obtain ⟨q0, q1⟩ := hk3.two
    by_cases hlt : k < n
    · have hm1 := Mk.made (E := 2) (n := n) (z := .int .i64 0) (Below.refl wr.heap.size wr) (by simp only [maxLen]; omega)
      rw [ints_replicate] at hm1
      obtain ⟨u1, hc1⟩ := hm1.2.cellI hlt
      have hf1 := hm1.2.frozen_ k
      have hm2 := (hm1.set k (.int .i64 1)).1
      rw [ints_set, World.setCell_alloc_at _ _ _ _ _ rfl] at hm2
      have hE0 : MkI wr _ (some ⟨wr.heap.size, 0, none⟩) n n (unitRow n k) := hm2
      have HE := Lib.hid hE0
      have HU := unitRow_nums hp n k
      clear hm1 hm2 hE0
      go_wp2
      obtain ⟨w6, hw6⟩ : ∃ W, W = wr.alloc (.cells ((madeCells #[.int .i64 0] n).setIfInBounds k (.int .i64 1)) 2) := ⟨_, rfl⟩
      have hE : MkI wr w6 (some ⟨wr.heap.size, 0, none⟩) n n (unitRow n k) := by rw [hw6]; exact HE.out
      rw [← hw6]
      clear hw6 HE hc1 hf1 q0 q1
      have k6 := hk3.below hE.b hk3.lt
      have hB6 := hBr.trans (hE.b.mono hBr.size)
      have hBk := hBk3
      refine wp_obs 12 [[], [], [], [], [2, 3], [], [], [5, 6], [1, 2, 3, 4, 5, 6, 7], [], [0, 1, 2, 3, 4, 5, 6, 7, 8, 9], [0, 1, 2, 3, 4, 5, 6, 7, 8, 9, 10]] [VIs (.agg #[.int .i64 P, .slice A n c]), VIs (.agg #[.int .i64 P, .slice A n c]), VIs (.agg #[.int .i64 P, .slice A n c]), VIs (.slice X (pw n) cx), VSl w (pw n) (invoL P xs), VIs (.agg #[.int .i64 P, .slice A n c]), VIs (.slice (some ⟨wr.heap.size, 0, none⟩) n n), VSl w (pw n) (vecTo n (unitRow n k) n), VSl w (pw n) (mulL P sq (invoL P xs) (vecTo n (unitRow n k) n)), VIs (.slice Bk (pw n) cB), VSl w (pw n) (mulL P sq (mulL P sq (invoL P xs) (vecTo n (unitRow n k) n)) (revL P xs)), VSl w (pw n) (mulL P sq (mulL P sq (invoL P xs) (vecTo n (unitRow n k) n)) (revL P xs))] (fun w' => Blk w' w.heap.size 26 #[.int .i64 P, .slice A n c] ∧ Below w.heap.size w w' ∧ Below w6.heap.size w6 w') (by kernel_rfl) (by kernel_rfl) (fun _ _ h hb => ⟨h.1.below hb h.1.lt, h.2.1.trans (hb.mono h.2.1.size), h.2.2.trans (hb.mono h.2.2.size)⟩) (⟨k6.drew, hB6.drew, (Below.refl _ _).drew⟩) (fun x => ?_)
      refine obs_step (Eq.trans (by simp only [List.getElem?_toArray, List.getElem?_cons_zero]; exact rfl) rfl) rfl (fun w' hS hV K hK => ?_) ?_
      · obtain ⟨q0, q1⟩ := hS.1.two
        go_simp
        exact hK.out _ _ _ rfl rfl rfl (Below.refl _ _)
      simp only [List.setIfInBounds_toArray, List.set_cons_zero, List.set_cons_succ]
      refine obs_step (Eq.trans (by simp only [List.getElem?_toArray, List.getElem?_cons_succ, List.getElem?_cons_zero]; exact rfl) rfl) rfl (fun w' hS hV K hK => ?_) ?_
      · obtain ⟨q0, q1⟩ := hS.1.two
        go_simp
        exact hK.out _ _ _ rfl rfl rfl (Below.refl _ _)
      simp only [List.setIfInBounds_toArray, List.set_cons_zero, List.set_cons_succ]
      refine obs_step (Eq.trans (by simp only [List.getElem?_toArray, List.getElem?_cons_succ, List.getElem?_cons_zero]; exact rfl) rfl) rfl (fun w' hS hV K hK => ?_) ?_
      · obtain ⟨q0, q1⟩ := hS.1.two
        go_simp
        exact hK.out _ _ _ rfl rfl rfl (Below.refl _ _)
      simp only [List.setIfInBounds_toArray, List.set_cons_zero, List.set_cons_succ]
      refine obs_step (Eq.trans (by simp only [List.getElem?_toArray, List.getElem?_cons_succ, List.getElem?_cons_zero]; exact rfl) rfl) rfl (fun w' hS hV K hK => ?_) ?_
      · obtain ⟨q0, q1⟩ := hS.1.two
        go_simp
        exact hK.out _ _ _ rfl rfl rfl (Below.refl _ _)
      simp only [List.setIfInBounds_toArray, List.set_cons_zero, List.set_cons_succ]
      refine obs_step (Eq.trans (by simp only [List.getElem?_toArray, List.getElem?_cons_succ, List.getElem?_cons_zero]; exact rfl) rfl) rfl (fun w' hS hV K hK => ?_) ?_
      · simp only [List.mem_cons, List.not_mem_nil, or_false, forall_eq_or_imp, forall_eq, List.getD_cons_succ, List.getD_cons_zero, VIs, VSl, VAny] at hV
        obtain ⟨e2, e3⟩ := hV
        obtain ⟨q0, q1⟩ := hS.1.two
        go_simp
        refine (l04Involute_any P A n c _ (pw n) _ xs _ hp hp2 HPW64 (hx.below hS.2.1) hxs).mono ?_
        rintro e w1 ⟨A2, c2, rfl, hM⟩
        exact hK.out _ _ _ rfl rfl ⟨_, _, rfl, hM.after hS.2.1⟩ hM.b
      simp only [List.setIfInBounds_toArray, List.set_cons_zero, List.set_cons_succ]
      refine obs_step (Eq.trans (by simp only [List.getElem?_toArray, List.getElem?_cons_succ, List.getElem?_cons_zero]; exact rfl) rfl) rfl (fun w' hS hV K hK => ?_) ?_
      · obtain ⟨q0, q1⟩ := hS.1.two
        go_simp
        exact hK.out _ _ _ rfl rfl rfl (Below.refl _ _)
      simp only [List.setIfInBounds_toArray, List.set_cons_zero, List.set_cons_succ]
      refine obs_step (Eq.trans (by simp only [List.getElem?_toArray, List.getElem?_cons_succ, List.getElem?_cons_zero]; exact rfl) rfl) rfl (fun w' hS hV K hK => ?_) ?_
      · obtain ⟨q0, q1⟩ := hS.1.two
        go_simp
        exact hK.out _ _ _ rfl rfl rfl (Below.refl _ _)
      simp only [List.setIfInBounds_toArray, List.set_cons_zero, List.set_cons_succ]
      refine obs_step (Eq.trans (by simp only [List.getElem?_toArray, List.getElem?_cons_succ, List.getElem?_cons_zero]; exact rfl) rfl) rfl (fun w' hS hV K hK => ?_) ?_
      · simp only [List.mem_cons, List.not_mem_nil, or_false, forall_eq_or_imp, forall_eq, List.getD_cons_succ, List.getD_cons_zero, VIs, VSl, VAny] at hV
        obtain ⟨e5, e6⟩ := hV
        obtain ⟨q0, q1⟩ := hS.1.two
        go_simp
        refine (l04Vector_any P A n c _ _ (unitRow n k) _ (by omega) (hE.rd.below hS.2.2)).mono ?_
        rintro e w1 ⟨A2, c2, rfl, hM⟩
        exact hK.out _ _ _ rfl rfl ⟨_, _, rfl, hM.after hS.2.1⟩ hM.b
      simp only [List.setIfInBounds_toArray, List.set_cons_zero, List.set_cons_succ]
      refine obs_step (Eq.trans (by simp only [List.getElem?_toArray, List.getElem?_cons_succ, List.getElem?_cons_zero]; exact rfl) rfl) rfl (fun w' hS hV K hK => ?_) ?_
      · simp only [List.mem_cons, List.not_mem_nil, or_false, forall_eq_or_imp, forall_eq, List.getD_cons_succ, List.getD_cons_zero, VIs, VSl, VAny] at hV
        obtain ⟨e1, e2, e3, ⟨A4, c4, e4, h4⟩, e5, e6, ⟨A7, c7, e7, h7⟩⟩ := hV
        obtain ⟨q0, q1⟩ := hS.1.two
        go_simp
        refine (l04Times_any P A n c sq _ _ (invoL P xs) _ _ (vecTo n (unitRow n k) n) _ hp hp2 hn (ha.below hS.2.1) hs h4.rd (sgnL_nums (by omega) oddT hxs) h7.rd (vecTo_nums (by omega) n (unitRow n k) HU n)).mono ?_
        rintro e w1 ⟨A2, c2, rfl, hM⟩
        exact hK.out _ _ _ rfl rfl ⟨_, _, rfl, hM.after hS.2.1⟩ hM.b
      simp only [List.setIfInBounds_toArray, List.set_cons_zero, List.set_cons_succ]
      refine obs_step (Eq.trans (by simp only [List.getElem?_toArray, List.getElem?_cons_succ, List.getElem?_cons_zero]; exact rfl) rfl) rfl (fun w' hS hV K hK => ?_) ?_
      · obtain ⟨q0, q1⟩ := hS.1.two
        go_simp
        exact hK.out _ _ _ rfl rfl rfl (Below.refl _ _)
      simp only [List.setIfInBounds_toArray, List.set_cons_zero, List.set_cons_succ]
      refine obs_step (Eq.trans (by simp only [List.getElem?_toArray, List.getElem?_cons_succ, List.getElem?_cons_zero]; exact rfl) rfl) rfl (fun w' hS hV K hK => ?_) ?_
      · simp only [List.mem_cons, List.not_mem_nil, or_false, forall_eq_or_imp, forall_eq, List.getD_cons_succ, List.getD_cons_zero, VIs, VSl, VAny] at hV
        obtain ⟨e0, e1, e2, e3, ⟨A4, c4, e4, h4⟩, e5, e6, ⟨A7, c7, e7, h7⟩, ⟨A8, c8, e8, h8⟩, e9⟩ := hV
        obtain ⟨q0, q1⟩ := hS.1.two
        go_simp
        refine (l04Times_any P A n c sq _ _ (mulL P sq (invoL P xs) (vecTo n (unitRow n k) n)) _ _ (revL P xs) _ hp hp2 hn (ha.below hS.2.1) hs h8.rd (mulL_nums (by omega) sq (invoL P xs) (vecTo n (unitRow n k) n)) ((hBk.rd.below hB5r).below (hE.b.trans (hS.2.2.mono hE.b.size))) (sgnL_nums (by omega) revT hxs)).mono ?_
        rintro e w1 ⟨A2, c2, rfl, hM⟩
        exact hK.out _ _ _ rfl rfl ⟨_, _, rfl, hM.after hS.2.1⟩ hM.b
      simp only [List.setIfInBounds_toArray, List.set_cons_zero, List.set_cons_succ]
      refine obs_step (Eq.trans (by simp only [List.getElem?_toArray, List.getElem?_cons_succ, List.getElem?_cons_zero]; exact rfl) rfl) rfl (fun w' hS hV K hK => ?_) ?_
      · simp only [List.mem_cons, List.not_mem_nil, or_false, forall_eq_or_imp, forall_eq, List.getD_cons_succ, List.getD_cons_zero, VIs, VSl, VAny] at hV
        obtain ⟨e0, e1, e2, e3, ⟨A4, c4, e4, h4⟩, e5, e6, ⟨A7, c7, e7, h7⟩, ⟨A8, c8, e8, h8⟩, e9, ⟨A10, c10, e10, h10⟩⟩ := hV
        obtain ⟨q0, q1⟩ := hS.1.two
        go_simp
        exact hK.out _ _ _ rfl rfl ⟨_, _, rfl, h10⟩ (Below.refl _ _)
      simp only [List.setIfInBounds_toArray, List.set_cons_zero, List.set_cons_succ]
      refine fun w' hS hV => ?_
      have hV := fun i hi => hV i (List.mem_range.1 hi)
      simp only [List.range, List.range.loop, List.mem_cons, List.not_mem_nil, or_false, forall_eq_or_imp, forall_eq, List.getD_cons_succ, List.getD_cons_zero, VIs, VSl, VAny] at hV
      obtain ⟨e0, e1, e2, e3, ⟨A4, c4, e4, h4⟩, e5, e6, ⟨A7, c7, e7, h7⟩, ⟨A8, c8, e8, h8⟩, e9, ⟨A10, c10, e10, h10⟩, ⟨A11, c11, e11, h11⟩⟩ := hV
      simp only [e0, e1, e2, e3, e4, e5, e6, e7, e8, e9, e10, e11]
      clear e0 e1 e2 e3 e4 e5 e6 e7 e8 e9 e10 e11
      refine wpAny_done (by kernel_rfl) ?_ _
      have hIm := h11
      have HIL := Lib.hid (onlyL_part (ys := imgL P sq n xs k) (by unfold imgL; rw [mulL_len, mulL_len]; unfold invoL; rw [sgnL_len, hx.lenI]; exact HPW64) (mulL_nums (show 0 < P by omega) sq _ (revL P xs)) 1)
      have hB7 := hS.2.1
      have k7 := hS.1
      have hB5s := hB5r.trans ((hE.b.trans (hS.2.2.mono hE.b.size)).mono hB5r.size)
      clear hS k6 hB6 hE h4 h7 h8 h11 hk3 hBr
      have hIr : Rd _ A11 (pw n) (ints (imgL P sq n xs k)) := hIm.rd
      clear hIm
      cases ho : onlyL (imgL P sq n xs k) 1
      all_goals
        have H4 := Lib.hid ho
        clear ho
        go_wp2_with fail
        refine (l04Part_any _ _ _ _ 1 _ HPW64 (by omega) hIr).mono ?_
        rintro e w8 ⟨Pt, cP, rfl, hPt⟩
        go_wp2_with fail
        refine (l01Same_b _ _ _ _ _ _ _ _ _ (by omega) (by omega) (hIr.below hPt.b) hPt.rd (HIL.out.trans H4.out)).mono ?_
        rintro e w9 ⟨rfl, j9, rfl⟩
        have hB9 := below_drewN (hB7.trans (hPt.b.mono hB7.size)) j9
        have k9 : Blk (w8.drewN j9) w.heap.size 26 #[.int .i64 P, .slice A n c] := k7.below (below_drewN hPt.b j9) k7.lt
        have hB59 := below_drewN (hB5s.trans (hPt.b.mono hB5s.size)) j9
        clear hB7 k7 hB5s hIr hPt
        go_wp2
      · go_ret
        refine ⟨ret_bool ?_, hB9⟩
        have : ((List.range n).all fun i => onlyL (imgL P sq n xs i) 1) = false := by
          rw [List.all_eq_false]
          exact ⟨k, by simpa using hlt, by rw [H4.out]; decide⟩
        unfold versB
        rw [this, Bool.and_false]
      · go_roundw
        case rel => exact ⟨k + 1, by omega, by go_num, by rw [List.range_succ, List.all_append, HAL.out]; simp [H4.out], k9, hB9, hB59⟩
        case measure => simp [intOf]; omega
    · obtain rfl : k = n := by omega
      go_wp2
      go_ret
      exact ⟨ret_bool (by unfold versB; rw [H1.out, H2.out, H3.out, HAL.out]; rfl), hBr⟩
theorem l07Is_any (P : Int) (A : Option Addr) (n c : Nat) (sq : List Int) (X : Option Addr) (cx : Nat) (xs : List Int) (w : World) (hp : 2 ≤ P) (hp2 : P ≤ 13) (hn : n ≤ 6) (ha : Rd w A n (ints sq)) (hs : NumsL P sq) (hx : Rd w X (pw n) (ints xs)) (hxs : NumsL P xs) (hcx : pw n ≤ cx) (HP : isP P = true) :
    Calls Tryz.prog 184 #[.agg #[.int .i64 P, .slice A n c], .slice X (pw n) cx] w fun e w' => e = .returned (.bool (versB P sq n xs)) ∧ Below w.heap.size w w' := by
  by_cases h1 : nrmL P sq xs = 0
  · exact l07Is_A P A n c sq X cx xs w hp hp2 hn ha hs hx hxs hcx HP h1
  · cases h2 : onlyL (mulL P sq xs (revL P xs)) 0
    · exact l07Is_B P A n c sq X cx xs w hp hp2 hn ha hs hx hxs hcx HP h1 h2
    · cases h3 : mixB (gradesL xs)
      · exact l07Is_D P A n c sq X cx xs w hp hp2 hn ha hs hx hxs hcx HP h1 h2 h3
      · exact l07Is_C P A n c sq X cx xs w hp hp2 hn ha hs hx hxs hcx HP h1 h2 h3
end Go.Proofs.YtggigolkncckoaaGreat
namespace Go.Proofs.YtggigolkncckoaaGreat
open Go.RowKit
theorem Blk.new_at {w : World} {t : TypeId} {cs : Array Value} {g : Nat} (hg : g = w.heap.size) : Blk (w.alloc (.cells cs t)) g t cs := hg ▸ Blk.new w t cs
theorem RdII.nil (w : World) (A : Option Addr) : RdII w A 0 [] := ⟨[], Rd.nil w A, rfl, fun k h => absurd h (by simp)⟩
theorem codeVs_nil (P : Int) (sq : List Int) (ms : List (List Int)) : codeVs P sq ms [] = codeR P sq ms := by
  unfold codeVs codeR
  by_cases h : codeM P sq ms = 0
  · rw [if_pos h, if_pos h]
    have : codeV P sq [] = 0 := by unfold codeV; rw [(codeM_sp h).1]; rfl
    rw [if_pos this]
  · rw [if_neg h, if_neg h]
/-- What a code 0 says. -/
theorem codeR_zero {P : Int} {sq : List Int} {ms : List (List Int)} (h : codeR P sq ms = 0) : codeM P sq ms = 0 ∧ regB sq = true := by
  unfold codeR at h
  by_cases h1 : codeM P sq ms = 0
  · rw [if_pos h1] at h
    cases h2 : regB sq
    · rw [h2] at h; simp at h
    · exact ⟨h1, rfl⟩
  · rw [if_neg h1] at h; exact absurd h h1
theorem isMu_spec {P : Int} {sq ys : List Int} (h : isMu P sq ys = true) : ys.length = pw sq.length ∧ NumsL P ys := by
  unfold isMu at h
  simp only [Bool.and_eq_true, beq_iff_eq] at h
  exact ⟨by have := h.1; omega, nums_numsL h.2⟩
theorem isVe_spec {P : Int} {sq ys : List Int} (h : isVe P sq ys = true) : ys.length = sq.length ∧ NumsL P ys := by
  unfold isVe at h
  simp only [Bool.and_eq_true, beq_iff_eq] at h
  exact ⟨by have := h.1; omega, nums_numsL h.2⟩
theorem codeM_spec {P : Int} {sq : List Int} {ms : List (List Int)} (h : codeM P sq ms = 0) : isP P = true ∧ 2 ≤ P ∧ P ≤ 13 ∧ 1 ≤ sq.length ∧ sq.length ≤ 6 ∧ NumsL P sq ∧ ∀ ys ∈ ms, ys.length = pw sq.length ∧ NumsL P ys := by
  obtain ⟨h1, h2⟩ := codeM_sp h
  obtain ⟨hp, hd1, hd2, hnum⟩ := isSp_dim h1
  have := isP_ge hp
  exact ⟨hp, by omega, by omega, hd1, hd2, nums_numsL hnum, fun ys hy => isMu_spec (h2 ys hy)⟩
/-- The code of a regular space and a versor. -/
def codeVr (P : Int) (sq xs : List Int) : Int := if codeR P sq [xs] = 0 then (if versB P sq sq.length xs then 0 else 5) else codeR P sq [xs]
theorem versB_norm {P : Int} {sq : List Int} {n : Nat} {xs : List Int} (hp : 2 ≤ P) (h : versB P sq n xs = true) : 0 < nrmL P sq xs := by
  have h1 := nrmL_small hp sq xs
  have : (nrmL P sq xs == 0) = false := by
    unfold versB at h
    simp only [Bool.and_eq_true, Bool.not_eq_true'] at h
    exact h.1.1.1
  have : nrmL P sq xs ≠ 0 := by simpa using this
  omega
/-- IsVersor. -/
def isVersR (P : Int) (sq xs : List Int) : Bool × Int := if codeR P sq [xs] = 0 then (versB P sq sq.length xs, 0) else (false, codeR P sq [xs])
theorem ret_tup2 {a b : Bool} {x y : Int} (h1 : a = b) (h2 : x = y) : Ending.returned (.tuple #[.bool a, .int .i64 x]) = .returned (.tuple #[.bool b, .int .i64 y]) := by rw [h1, h2]
set_option maxHeartbeats 1600000 in
set_option maxRecDepth 8000 in
theorem IsVersor_any (P : Int) (A : Option Addr) (n c : Nat) (sq : List Int) (X : Option Addr) (m cx : Nat) (xs : List Int) (w : World) (hn : n ≤ 1048576) (hm : m ≤ 1048576) (ha : Rd w A n (ints sq)) (hx : Rd w X m (ints xs)) (hcx : m ≤ cx) :
    Calls Tryz.prog 38 #[.agg #[.int .i64 P, .slice A n c], .slice X m cx] w fun e w' => e = .returned (.tuple #[.bool (isVersR P sq xs).1, .int .i64 (isVersR P sq xs).2]) ∧ Below w.heap.size w w' := by
  have hB0 : Below w.heap.size w (w.alloc (.cells #[.int .i64 P, .slice A n c] 26)) := (Below.refl _ _).alloc (Nat.le_refl _) _
  have k0 : Blk (w.alloc (.cells #[.int .i64 P, .slice A n c] 26)) w.heap.size 26 #[.int .i64 P, .slice A n c] := Blk.new _ _ _
  have hB1 : Below w.heap.size w ((w.alloc (.cells #[.int .i64 P, .slice A n c] 26)).alloc (.cells #[.slice X m cx] 24)) := hB0.alloc (by simp) _
  have k1 : Blk ((w.alloc (.cells #[.int .i64 P, .slice A n c] 26)).alloc (.cells #[.slice X m cx] 24)) w.heap.size 26 #[.int .i64 P, .slice A n c] := k0.alloc _
  have hreg := checkVersors_any P A (some ⟨w.heap.size + 1, 0, none⟩) none n c 1 1 0 0 sq [xs] [] ((w.alloc (.cells #[.int .i64 P, .slice A n c] 26)).alloc (.cells #[.slice X m cx] 24)) hn (by omega) (by omega) (ha.below hB1) (rdII_one' (Blk.new_at (by simp)) (hx.below hB1) hcx) (all_one (by rw [hx.lenI]; exact hm)) (RdII.nil _ _) (by simp)
  rw [codeVs_nil] at hreg
  obtain ⟨r, hr⟩ : ∃ r, r = codeR P sq [xs] := ⟨_, rfl⟩
  have HR := Lib.hid hr
  by_cases hr0 : r = 0
  · have hcM := (codeR_zero (hr.symm.trans hr0)).1
    obtain ⟨HP, hp, hp2, hd1, hd2, hs, hms⟩ := codeM_spec hcM
    have hxl := hx.lenI
    have hsl := ha.lenI
    obtain ⟨hl1, hxs⟩ := hms xs (by simp)
    have hn6 : n ≤ 6 := by omega
    have hmn : m = pw n := by rw [← hxl, hl1, hsl]
    subst hmn
    have HSL := Lib.hid hsl
    have HS := Lib.hid hs
    have HXS := Lib.hid hxs
    clear hxl hsl hms hl1 hd1 hd2 hcM hs hxs
    have HR0 := Lib.hid hr0
    have b0 := code_eq hr0
    clear hr hr0

    go_enter Tryz.func38, Tryz.ntmps38
    go_wp2_with fail
    refine hreg.mono ?_
    rintro e w2 ⟨rfl, hb2⟩
    rw [← HR.out]
    have hB2 := hB1.trans (hb2.mono hB1.size)
    have k2 := k1.below hb2 k1.lt
    obtain ⟨q0, q1⟩ := k2.two
    clear k1 hB1 hb2
    go_wp2_with fail
    refine (isVersor_any P A n c sq X cx xs _ hp hp2 hn6 (ha.below hB2) HS.out (hx.below hB2) HXS.out hcx).mono ?_
    rintro e w3 ⟨rfl, hb3⟩
    go_wp2
    go_ret2
    exact ⟨ret_tup2 (by unfold isVersR; rw [← HR.out, if_pos HR0.out, HSL.out]) (by unfold isVersR; rw [← HR.out, if_pos HR0.out]), hB2.trans (hb3.mono hB2.size)⟩
  · have HR0 := Lib.hid hr0
    have b0 := code_ne hr0
    clear hr hr0
    go_enter Tryz.func38, Tryz.ntmps38
    go_wp2_with fail
    refine hreg.mono ?_
    rintro e w2 ⟨rfl, hb2⟩
    rw [← HR.out]
    have hB2 := hB1.trans (hb2.mono hB1.size)
    have k2 := k1.below hb2 k1.lt
    obtain ⟨q0, q1⟩ := k2.two
    clear k1 hB1 hb2
    go_wp2
    go_ret2
    exact ⟨ret_tup2 (by unfold isVersR; rw [← HR.out, if_neg HR0.out]) (by unfold isVersR; rw [← HR.out, if_neg HR0.out]), hB2⟩
set_option maxHeartbeats 1600000 in
set_option maxRecDepth 8000 in
theorem specIsVersor_any (P : Int) (A : Option Addr) (n c : Nat) (sq : List Int) (X : Option Addr) (m cx : Nat) (xs : List Int) (w : World) (hn : n ≤ 1048576) (hm : m ≤ 1048576) (ha : Rd w A n (ints sq)) (hx : Rd w X m (ints xs)) (hcx : m ≤ cx) :
    Calls Tryz.prog 52 #[.agg #[.int .i64 P, .slice A n c], .slice X m cx] w fun e w' => e = .returned (.tuple #[.bool (isVersR P sq xs).1, .int .i64 (isVersR P sq xs).2]) ∧ Below w.heap.size w w' := by
  have hB0 : Below w.heap.size w (w.alloc (.cells #[.int .i64 P, .slice A n c] 26)) := (Below.refl _ _).alloc (Nat.le_refl _) _
  have k0 : Blk (w.alloc (.cells #[.int .i64 P, .slice A n c] 26)) w.heap.size 26 #[.int .i64 P, .slice A n c] := Blk.new _ _ _
  have hB1 : Below w.heap.size w ((w.alloc (.cells #[.int .i64 P, .slice A n c] 26)).alloc (.cells #[.slice X m cx] 24)) := hB0.alloc (by simp) _
  have k1 : Blk ((w.alloc (.cells #[.int .i64 P, .slice A n c] 26)).alloc (.cells #[.slice X m cx] 24)) w.heap.size 26 #[.int .i64 P, .slice A n c] := k0.alloc _
  have hreg := l05Regular_any P A (some ⟨w.heap.size + 1, 0, none⟩) n c 1 1 sq [xs] ((w.alloc (.cells #[.int .i64 P, .slice A n c] 26)).alloc (.cells #[.slice X m cx] 24)) hn (by omega) (ha.below hB1) (rdII_one' (Blk.new_at (by simp)) (hx.below hB1) hcx) (all_one (by rw [hx.lenI]; exact hm))
  obtain ⟨r, hr⟩ : ∃ r, r = codeR P sq [xs] := ⟨_, rfl⟩
  have HR := Lib.hid hr
  by_cases hr0 : r = 0
  · have hcM := (codeR_zero (hr.symm.trans hr0)).1
    obtain ⟨HP, hp, hp2, hd1, hd2, hs, hms⟩ := codeM_spec hcM
    have hxl := hx.lenI
    have hsl := ha.lenI
    obtain ⟨hl1, hxs⟩ := hms xs (by simp)
    have hn6 : n ≤ 6 := by omega
    have hmn : m = pw n := by rw [← hxl, hl1, hsl]
    subst hmn
    have HSL := Lib.hid hsl
    have HS := Lib.hid hs
    have HXS := Lib.hid hxs
    clear hxl hsl hms hl1 hd1 hd2 hcM hs hxs
    have HR0 := Lib.hid hr0
    have b0 := code_eq hr0
    clear hr hr0

    go_enter Tryz.func52, Tryz.ntmps52
    go_wp2_with fail
    refine hreg.mono ?_
    rintro e w2 ⟨rfl, hb2⟩
    rw [← HR.out]
    have hB2 := hB1.trans (hb2.mono hB1.size)
    have k2 := k1.below hb2 k1.lt
    obtain ⟨q0, q1⟩ := k2.two
    clear k1 hB1 hb2
    go_wp2_with fail
    refine (l07Is_any P A n c sq X cx xs _ hp hp2 hn6 (ha.below hB2) HS.out (hx.below hB2) HXS.out hcx HP).mono ?_
    rintro e w3 ⟨rfl, hb3⟩
    go_wp2
    go_ret2
    exact ⟨ret_tup2 (by unfold isVersR; rw [← HR.out, if_pos HR0.out, HSL.out]) (by unfold isVersR; rw [← HR.out, if_pos HR0.out]), hB2.trans (hb3.mono hB2.size)⟩
  · have HR0 := Lib.hid hr0
    have b0 := code_ne hr0
    clear hr hr0
    go_enter Tryz.func52, Tryz.ntmps52
    go_wp2_with fail
    refine hreg.mono ?_
    rintro e w2 ⟨rfl, hb2⟩
    rw [← HR.out]
    have hB2 := hB1.trans (hb2.mono hB1.size)
    have k2 := k1.below hb2 k1.lt
    obtain ⟨q0, q1⟩ := k2.two
    clear k1 hB1 hb2
    go_wp2
    go_ret2
    exact ⟨ret_tup2 (by unfold isVersR; rw [← HR.out, if_neg HR0.out]) (by unfold isVersR; rw [← HR.out, if_neg HR0.out]), hB2⟩
set_option maxHeartbeats 1600000 in
set_option maxRecDepth 8000 in
theorem l07Code_any (P : Int) (A : Option Addr) (n c : Nat) (sq : List Int) (X : Option Addr) (m cx : Nat) (xs : List Int) (w : World) (hn : n ≤ 1048576) (hm : m ≤ 1048576) (ha : Rd w A n (ints sq)) (hx : Rd w X m (ints xs)) (hcx : m ≤ cx) :
    Calls Tryz.prog 178 #[.agg #[.int .i64 P, .slice A n c], .slice X m cx] w fun e w' => e = .returned (.int .i64 (codeVr P sq xs)) ∧ Below w.heap.size w w' := by
  have hB0 : Below w.heap.size w (w.alloc (.cells #[.int .i64 P, .slice A n c] 26)) := (Below.refl _ _).alloc (Nat.le_refl _) _
  have k0 : Blk (w.alloc (.cells #[.int .i64 P, .slice A n c] 26)) w.heap.size 26 #[.int .i64 P, .slice A n c] := Blk.new _ _ _
  have hB1 : Below w.heap.size w ((w.alloc (.cells #[.int .i64 P, .slice A n c] 26)).alloc (.cells #[.slice X m cx] 24)) := hB0.alloc (by simp) _
  have k1 : Blk ((w.alloc (.cells #[.int .i64 P, .slice A n c] 26)).alloc (.cells #[.slice X m cx] 24)) w.heap.size 26 #[.int .i64 P, .slice A n c] := k0.alloc _
  have hreg := l05Regular_any P A (some ⟨w.heap.size + 1, 0, none⟩) n c 1 1 sq [xs] ((w.alloc (.cells #[.int .i64 P, .slice A n c] 26)).alloc (.cells #[.slice X m cx] 24)) hn (by omega) (ha.below hB1) (rdII_one' (Blk.new_at (by simp)) (hx.below hB1) hcx) (all_one (by rw [hx.lenI]; exact hm))
  obtain ⟨r, hr⟩ : ∃ r, r = codeR P sq [xs] := ⟨_, rfl⟩
  have HR := Lib.hid hr
  by_cases hr0 : r = 0
  · have hcM := (codeR_zero (hr.symm.trans hr0)).1
    obtain ⟨HP, hp, hp2, hd1, hd2, hs, hms⟩ := codeM_spec hcM
    have hxl := hx.lenI
    have hsl := ha.lenI
    obtain ⟨hl1, hxs⟩ := hms xs (by simp)
    have hn6 : n ≤ 6 := by omega
    have hmn : m = pw n := by rw [← hxl, hl1, hsl]
    subst hmn
    have HSL := Lib.hid hsl
    have HS := Lib.hid hs
    have HXS := Lib.hid hxs
    clear hxl hsl hms hl1 hd1 hd2 hcM hs hxs
    have HR0 := Lib.hid hr0
    have b0 := code_eq hr0
    clear hr hr0

    have b0' : (r == 0) = true := by rw [HR0.out]; rfl
    cases hv : versB P sq n xs
    all_goals
      have HV := Lib.hid hv
      clear hv
      go_enter Tryz.func178, Tryz.ntmps178
      go_wp2_with fail
      refine hreg.mono ?_
      rintro e w2 ⟨rfl, hb2⟩
      rw [← HR.out]
      have hB2 := hB1.trans (hb2.mono hB1.size)
      have k2 := k1.below hb2 k1.lt
      obtain ⟨q0, q1⟩ := k2.two
      clear k1 hB1 hb2
      go_wp2_with fail
      refine (l07Is_any P A n c sq X cx xs _ hp hp2 hn6 (ha.below hB2) HS.out (hx.below hB2) HXS.out hcx HP).mono ?_
      rintro e w3 ⟨rfl, hb3⟩
      rw [HV.out]
      go_wp2
      go_ret
      exact ⟨ret_int (by unfold codeVr; rw [← HR.out, if_pos HR0.out, HSL.out, HV.out]; first | rfl | exact HR0.out), hB2.trans (hb3.mono hB2.size)⟩
  · have HR0 := Lib.hid hr0
    have b0 := code_ne hr0
    clear hr hr0
    go_enter Tryz.func178, Tryz.ntmps178
    go_wp2_with fail
    refine hreg.mono ?_
    rintro e w2 ⟨rfl, hb2⟩
    rw [← HR.out]
    have hB2 := hB1.trans (hb2.mono hB1.size)
    have k2 := k1.below hb2 k1.lt
    obtain ⟨q0, q1⟩ := k2.two
    clear k1 hB1 hb2
    have b0' : (r == 0) = false := by have := HR0.out; simp [this]
    go_wp2
    go_ret
    exact ⟨ret_int (by unfold codeVr; rw [← HR.out, if_neg HR0.out]), hB2⟩
/-- SandwichOf. -/
def sandR (P : Int) (sq xs v : List Int) : List Int × Int :=
  if codeM P sq [xs] = 0 then (if isVe P sq v then (if codeVr P sq xs = 0 then (sandL P sq sq.length xs v, 0) else ([], codeVr P sq xs)) else ([], 2)) else ([], codeM P sq [xs])
/-- SandwichOfMultivector. -/
def sandM (P : Int) (sq xs ys : List Int) : List Int := mulL P sq (mulL P sq xs (if evenL xs then ys else invoL P ys)) (vinvL P sq xs)
def sandMR (P : Int) (sq xs ys : List Int) : List Int × Int :=
  if codeM P sq [xs, ys] = 0 then (if codeVr P sq xs = 0 then (sandM P sq xs ys, 0) else ([], codeVr P sq xs)) else ([], codeM P sq [xs, ys])
theorem codeVr_ne {P : Int} {sq xs : List Int} (h : ¬ codeR P sq [xs] = 0) : codeVr P sq xs = codeR P sq [xs] := by unfold codeVr; rw [if_neg h]
theorem codeVr_zero {P : Int} {sq xs : List Int} (h : codeVr P sq xs = 0) : codeR P sq [xs] = 0 ∧ versB P sq sq.length xs = true := by
  unfold codeVr at h
  by_cases h1 : codeR P sq [xs] = 0
  · rw [if_pos h1] at h
    cases h2 : versB P sq sq.length xs
    · rw [h2] at h; simp at h
    · exact ⟨h1, rfl⟩
  · rw [if_neg h1] at h; exact absurd h h1
end Go.Proofs.YtggigolkncckoaaGreat
