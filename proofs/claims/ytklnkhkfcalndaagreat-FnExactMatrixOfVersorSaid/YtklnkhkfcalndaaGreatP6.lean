/-
  LawMatrixOfVersor: part 6 of the texts that the proof needs. No condition.
-/
import Derived.Test.YtklnkhkfcalndaaGreatP5
namespace Go.Proofs.YtklnkhkfcalndaaGreat
open Go.RowKit
theorem l01Same_b {b : Bool} (A B : Option Addr) (n m c d : Nat) (xs ys : List Int) (w : World) (hn : n ≤ 1099511627776) (hm : m ≤ 1099511627776) (ha : Rd w A n (ints xs)) (hb : Rd w B m (ints ys)) (h : decide (xs = ys) = b) :
    Calls Tryz.prog 62 #[.slice A n c, .slice B m d] w fun e w' => e = .returned (.bool b) ∧ ∃ j, w' = w.drewN j := h ▸ l01Same_any A B n m c d xs ys w hn hm ha hb
set_option maxHeartbeats 3200000 in
set_option maxRecDepth 8000 in
theorem l07Is_A (P : Int) (A : Option Addr) (n c : Nat) (sq : List Int) (X : Option Addr) (cx : Nat) (xs : List Int) (w : World) (hp : 2 ≤ P) (hp2 : P ≤ 13) (hn : n ≤ 6) (ha : Rd w A n (ints sq)) (hs : NumsL P sq) (hx : Rd w X (pw n) (ints xs)) (hxs : NumsL P xs) (_hcx : pw n ≤ cx) (_HP : isP P = true) (h1 : nrmL P sq xs = 0) :
    Calls Tryz.prog 47 #[.agg #[.int .i64 P, .slice A n c], .slice X (pw n) cx] w fun e w' => e = .returned (.bool (versB P sq n xs)) ∧ Below w.heap.size w w' := by
  have hB0 : Below w.heap.size w (w.alloc (.cells #[.int .i64 P, .slice A n c] 29)) := (Below.refl _ _).alloc (Nat.le_refl _) _
  have k0 : Blk (w.alloc (.cells #[.int .i64 P, .slice A n c] 29)) w.heap.size 29 #[.int .i64 P, .slice A n c] := Blk.new _ _ _
  have HPW : pw n ≤ 65536 := Nat.le_trans (pw_le (show n ≤ 10 by omega)) (by decide)
  have HPW64 : pw n ≤ 64 := pw_le hn
  have HNN := mulL_nums (show 0 < P by omega) sq xs (revL P xs)
  have HSC : Hid (decide (mulL P sq xs (revL P xs) = scaleL P (bladeL n 0) (nrmL P sq xs)) = onlyL (mulL P sq xs (revL P xs)) 0) := Lib.hid (onlyL_scalar hp hn (by rw [mulL_len, hx.lenI]) HNN)
  have HEV := Lib.hid (evnV_neg (gs := gradesL xs) fun g hg => (gradesL_range xs g hg).1)
  have b1 : (nrmL P sq xs == 0) = true := by rw [h1]; rfl
  have H1 := Lib.hid b1
  clear h1
  go_enter Tryz.func47, Tryz.ntmps47
  go_wp2_with fail
  refine (l04Reverse_any P A n c X (pw n) cx xs _ hp hp2 HPW64 (hx.below hB0) hxs).mono ?_
  rintro e w1 ⟨Bk, cB, rfl, hBk⟩
  have hB1 := hB0.trans (hBk.b.mono (by simp))
  have k1 := k0.below hBk.b k0.lt
  obtain ⟨q0, q1⟩ := k1.two
  clear k0 hB0
  go_wp2_with fail
  refine (l04Times_any P A n c sq X cx xs Bk cB _ _ hp hp2 hn (ha.below hB1) hs (hx.below hB1) hxs hBk.rd (sgnL_nums (by omega) revT hxs)).mono ?_
  rintro e w2 ⟨N, cN, rfl, hN⟩
  have hB2 := hB1.trans (hN.b.mono hB1.size)
  have k2 := k1.below hN.b k1.lt
  have hBk2 := hBk.below hN.b
  rcases hN.2.form with ⟨_, hz⟩ | ⟨gN, hgN, _, _⟩
  · exact absurd hz (by have := pw_pos n; omega)
  subst hgN
  clear q0 q1 k1 hB1 hBk
  go_wp2
  refine wp_obs 23 [[], [0], [0, 1], [0, 1, 2], [0, 1, 2, 3], [0, 1, 2, 3, 4], [0, 1, 2, 3, 4], [0, 1, 2, 3, 4, 6], [0, 1, 2, 3, 4], [0, 1, 2, 3, 4, 8], [0, 1, 2, 3, 4], [0, 1, 2, 3, 4, 10], [0, 1, 2, 3, 4, 10, 11], [0, 1, 2, 3, 4, 6, 7, 8, 9, 10, 11, 12], [0, 1, 2, 3, 4, 5, 6, 7, 8, 9, 10, 11, 12, 13], [0, 1, 2, 3, 4, 5, 6, 7, 8, 9, 10, 11, 12, 13, 14], [0, 1, 2, 3, 4, 5, 6, 7, 8, 9, 10, 11, 12, 13, 14, 15], [0, 1, 2, 3, 4, 5, 6, 7, 8, 9, 10, 11, 12, 13, 14, 15, 16], [0, 1, 2, 3, 4, 5, 6, 7, 8, 9, 10, 11, 12, 13, 14, 15, 16, 17], [0, 1, 2, 3, 4, 5, 6, 7, 8, 9, 10, 11, 12, 13, 14, 15, 16, 17], [0, 1, 2, 3, 4, 5, 6, 7, 8, 9, 10, 11, 12, 13, 14, 15, 16, 17, 18, 19], [0, 1, 2, 3, 4, 5, 6, 7, 8, 9, 10, 11, 12, 13, 14, 15, 16, 17, 18, 19, 20], [0, 1, 2, 3, 4, 5, 6, 7, 8, 9, 10, 11, 12, 13, 14, 15, 16, 17, 18, 19, 20, 21]] [VIs (.slice (some ⟨gN, 0, none⟩) (pw n) cN), VIs (.pointer (some ⟨gN, 0, none⟩)), VIs (.int .i64 (nrmL P sq xs)), VIs (.bool true), VIs (.bool true), VIs undef, VIs undef, VIs undef, VIs undef, VIs undef, VIs undef, VIs undef, VIs undef, VIs undef, VIs undef, VIs undef, VIs (.bool true), VIs (.bool true), VIs undef, VIs undef, VIs undef, VIs undef, VIs (.bool true)] (fun w' => Blk w' w.heap.size 29 #[.int .i64 P, .slice A n c] ∧ Below w.heap.size w w' ∧ Below w2.heap.size w2 w') (by kernel_rfl) (by kernel_rfl) (fun _ _ h hb => ⟨h.1.below hb h.1.lt, h.2.1.trans (hb.mono h.2.1.size), h.2.2.trans (hb.mono h.2.2.size)⟩) (⟨k2.drew, hB2.drew, (Below.refl _ _).drew⟩) (fun x => ?_)
  refine obs_step (Eq.trans (by simp only [List.getElem?_toArray, List.getElem?_cons_zero]; exact rfl) rfl) rfl (fun w' hS hV K hK => ?_) ?_
  · obtain ⟨q0, q1⟩ := hS.1.two; have hcN : w'.cell? ⟨gN, 0, none⟩ = some (.int .i64 (nrmL P sq xs)) := (mkI_at (hN.below hS.2.2) (pw_pos n)).1; have hposI : 0 < pw n := pw_pos n
    go_simp
    exact hK.out _ _ _ rfl rfl rfl (Below.refl _ _)
  simp only [List.setIfInBounds_toArray, List.set_cons_zero, List.set_cons_succ]
  refine obs_step (Eq.trans (by simp only [List.getElem?_toArray, List.getElem?_cons_succ, List.getElem?_cons_zero]; exact rfl) rfl) rfl (fun w' hS hV K hK => ?_) ?_
  · simp only [List.mem_cons, List.not_mem_nil, or_false, forall_eq, List.getD_cons_succ, List.getD_cons_zero, VIs, VAny] at hV
    obtain e0 := hV
    obtain ⟨q0, q1⟩ := hS.1.two; have hcN : w'.cell? ⟨gN, 0, none⟩ = some (.int .i64 (nrmL P sq xs)) := (mkI_at (hN.below hS.2.2) (pw_pos n)).1; have hposI : 0 < pw n := pw_pos n
    go_simp
    exact hK.out _ _ _ rfl rfl rfl (Below.refl _ _)
  simp only [List.setIfInBounds_toArray, List.set_cons_zero, List.set_cons_succ]
  refine obs_step (Eq.trans (by simp only [List.getElem?_toArray, List.getElem?_cons_succ, List.getElem?_cons_zero]; exact rfl) rfl) rfl (fun w' hS hV K hK => ?_) ?_
  · simp only [List.mem_cons, List.not_mem_nil, or_false, forall_eq_or_imp, forall_eq, List.getD_cons_succ, List.getD_cons_zero, VIs, VAny] at hV
    obtain ⟨e0, e1⟩ := hV
    obtain ⟨q0, q1⟩ := hS.1.two; have hcN : w'.cell? ⟨gN, 0, none⟩ = some (.int .i64 (nrmL P sq xs)) := (mkI_at (hN.below hS.2.2) (pw_pos n)).1; have hposI : 0 < pw n := pw_pos n
    go_simp
    exact hK.out _ _ _ rfl rfl rfl (Below.refl _ _)
  simp only [List.setIfInBounds_toArray, List.set_cons_zero, List.set_cons_succ]
  refine obs_step (Eq.trans (by simp only [List.getElem?_toArray, List.getElem?_cons_succ, List.getElem?_cons_zero]; exact rfl) rfl) rfl (fun w' hS hV K hK => ?_) ?_
  · simp only [List.mem_cons, List.not_mem_nil, or_false, forall_eq_or_imp, forall_eq, List.getD_cons_succ, List.getD_cons_zero, VIs, VAny] at hV
    obtain ⟨e0, e1, e2⟩ := hV
    obtain ⟨q0, q1⟩ := hS.1.two; have hcN : w'.cell? ⟨gN, 0, none⟩ = some (.int .i64 (nrmL P sq xs)) := (mkI_at (hN.below hS.2.2) (pw_pos n)).1; have hposI : 0 < pw n := pw_pos n
    go_simp
    exact hK.out _ _ _ rfl rfl rfl (Below.refl _ _)
  simp only [List.setIfInBounds_toArray, List.set_cons_zero, List.set_cons_succ]
  refine obs_step (Eq.trans (by simp only [List.getElem?_toArray, List.getElem?_cons_succ, List.getElem?_cons_zero]; exact rfl) rfl) rfl (fun w' hS hV K hK => ?_) ?_
  · simp only [List.mem_cons, List.not_mem_nil, or_false, forall_eq_or_imp, forall_eq, List.getD_cons_succ, List.getD_cons_zero, VIs, VAny] at hV
    obtain ⟨e0, e1, e2, e3⟩ := hV
    obtain ⟨q0, q1⟩ := hS.1.two; have hcN : w'.cell? ⟨gN, 0, none⟩ = some (.int .i64 (nrmL P sq xs)) := (mkI_at (hN.below hS.2.2) (pw_pos n)).1; have hposI : 0 < pw n := pw_pos n
    go_simp
    exact hK.out _ _ _ rfl rfl rfl (Below.refl _ _)
  simp only [List.setIfInBounds_toArray, List.set_cons_zero, List.set_cons_succ]
  refine obs_step (Eq.trans (by simp only [List.getElem?_toArray, List.getElem?_cons_succ, List.getElem?_cons_zero]; exact rfl) rfl) rfl (fun w' hS hV K hK => ?_) ?_
  · simp only [List.mem_cons, List.not_mem_nil, or_false, forall_eq_or_imp, forall_eq, List.getD_cons_succ, List.getD_cons_zero, VIs, VAny] at hV
    obtain ⟨e0, e1, e2, e3, e4⟩ := hV
    obtain ⟨q0, q1⟩ := hS.1.two; have hcN : w'.cell? ⟨gN, 0, none⟩ = some (.int .i64 (nrmL P sq xs)) := (mkI_at (hN.below hS.2.2) (pw_pos n)).1; have hposI : 0 < pw n := pw_pos n
    go_simp
    exact hK.out _ _ _ rfl rfl rfl (Below.refl _ _)
  simp only [List.setIfInBounds_toArray, List.set_cons_zero, List.set_cons_succ]
  refine obs_step (Eq.trans (by simp only [List.getElem?_toArray, List.getElem?_cons_succ, List.getElem?_cons_zero]; exact rfl) rfl) rfl (fun w' hS hV K hK => ?_) ?_
  · simp only [List.mem_cons, List.not_mem_nil, or_false, forall_eq_or_imp, forall_eq, List.getD_cons_succ, List.getD_cons_zero, VIs, VAny] at hV
    obtain ⟨e0, e1, e2, e3, e4⟩ := hV
    obtain ⟨q0, q1⟩ := hS.1.two; have hcN : w'.cell? ⟨gN, 0, none⟩ = some (.int .i64 (nrmL P sq xs)) := (mkI_at (hN.below hS.2.2) (pw_pos n)).1; have hposI : 0 < pw n := pw_pos n
    go_simp
    exact hK.out _ _ _ rfl rfl rfl (Below.refl _ _)
  simp only [List.setIfInBounds_toArray, List.set_cons_zero, List.set_cons_succ]
  refine obs_step (Eq.trans (by simp only [List.getElem?_toArray, List.getElem?_cons_succ, List.getElem?_cons_zero]; exact rfl) rfl) rfl (fun w' hS hV K hK => ?_) ?_
  · simp only [List.mem_cons, List.not_mem_nil, or_false, forall_eq_or_imp, forall_eq, List.getD_cons_succ, List.getD_cons_zero, VIs, VAny] at hV
    obtain ⟨e0, e1, e2, e3, e4, e6⟩ := hV
    obtain ⟨q0, q1⟩ := hS.1.two; have hcN : w'.cell? ⟨gN, 0, none⟩ = some (.int .i64 (nrmL P sq xs)) := (mkI_at (hN.below hS.2.2) (pw_pos n)).1; have hposI : 0 < pw n := pw_pos n
    go_simp
    exact hK.out _ _ _ rfl rfl rfl (Below.refl _ _)
  simp only [List.setIfInBounds_toArray, List.set_cons_zero, List.set_cons_succ]
  refine obs_step (Eq.trans (by simp only [List.getElem?_toArray, List.getElem?_cons_succ, List.getElem?_cons_zero]; exact rfl) rfl) rfl (fun w' hS hV K hK => ?_) ?_
  · simp only [List.mem_cons, List.not_mem_nil, or_false, forall_eq_or_imp, forall_eq, List.getD_cons_succ, List.getD_cons_zero, VIs, VAny] at hV
    obtain ⟨e0, e1, e2, e3, e4⟩ := hV
    obtain ⟨q0, q1⟩ := hS.1.two; have hcN : w'.cell? ⟨gN, 0, none⟩ = some (.int .i64 (nrmL P sq xs)) := (mkI_at (hN.below hS.2.2) (pw_pos n)).1; have hposI : 0 < pw n := pw_pos n
    go_simp
    exact hK.out _ _ _ rfl rfl rfl (Below.refl _ _)
  simp only [List.setIfInBounds_toArray, List.set_cons_zero, List.set_cons_succ]
  refine obs_step (Eq.trans (by simp only [List.getElem?_toArray, List.getElem?_cons_succ, List.getElem?_cons_zero]; exact rfl) rfl) rfl (fun w' hS hV K hK => ?_) ?_
  · simp only [List.mem_cons, List.not_mem_nil, or_false, forall_eq_or_imp, forall_eq, List.getD_cons_succ, List.getD_cons_zero, VIs, VAny] at hV
    obtain ⟨e0, e1, e2, e3, e4, e8⟩ := hV
    obtain ⟨q0, q1⟩ := hS.1.two; have hcN : w'.cell? ⟨gN, 0, none⟩ = some (.int .i64 (nrmL P sq xs)) := (mkI_at (hN.below hS.2.2) (pw_pos n)).1; have hposI : 0 < pw n := pw_pos n
    go_simp
    exact hK.out _ _ _ rfl rfl rfl (Below.refl _ _)
  simp only [List.setIfInBounds_toArray, List.set_cons_zero, List.set_cons_succ]
  refine obs_step (Eq.trans (by simp only [List.getElem?_toArray, List.getElem?_cons_succ, List.getElem?_cons_zero]; exact rfl) rfl) rfl (fun w' hS hV K hK => ?_) ?_
  · simp only [List.mem_cons, List.not_mem_nil, or_false, forall_eq_or_imp, forall_eq, List.getD_cons_succ, List.getD_cons_zero, VIs, VAny] at hV
    obtain ⟨e0, e1, e2, e3, e4⟩ := hV
    obtain ⟨q0, q1⟩ := hS.1.two; have hcN : w'.cell? ⟨gN, 0, none⟩ = some (.int .i64 (nrmL P sq xs)) := (mkI_at (hN.below hS.2.2) (pw_pos n)).1; have hposI : 0 < pw n := pw_pos n
    go_simp
    exact hK.out _ _ _ rfl rfl rfl (Below.refl _ _)
  simp only [List.setIfInBounds_toArray, List.set_cons_zero, List.set_cons_succ]
  refine obs_step (Eq.trans (by simp only [List.getElem?_toArray, List.getElem?_cons_succ, List.getElem?_cons_zero]; exact rfl) rfl) rfl (fun w' hS hV K hK => ?_) ?_
  · simp only [List.mem_cons, List.not_mem_nil, or_false, forall_eq_or_imp, forall_eq, List.getD_cons_succ, List.getD_cons_zero, VIs, VAny] at hV
    obtain ⟨e0, e1, e2, e3, e4, e10⟩ := hV
    obtain ⟨q0, q1⟩ := hS.1.two; have hcN : w'.cell? ⟨gN, 0, none⟩ = some (.int .i64 (nrmL P sq xs)) := (mkI_at (hN.below hS.2.2) (pw_pos n)).1; have hposI : 0 < pw n := pw_pos n
    go_simp
    exact hK.out _ _ _ rfl rfl rfl (Below.refl _ _)
  simp only [List.setIfInBounds_toArray, List.set_cons_zero, List.set_cons_succ]
  refine obs_step (Eq.trans (by simp only [List.getElem?_toArray, List.getElem?_cons_succ, List.getElem?_cons_zero]; exact rfl) rfl) rfl (fun w' hS hV K hK => ?_) ?_
  · simp only [List.mem_cons, List.not_mem_nil, or_false, forall_eq_or_imp, forall_eq, List.getD_cons_succ, List.getD_cons_zero, VIs, VAny] at hV
    obtain ⟨e0, e1, e2, e3, e4, e10, e11⟩ := hV
    obtain ⟨q0, q1⟩ := hS.1.two; have hcN : w'.cell? ⟨gN, 0, none⟩ = some (.int .i64 (nrmL P sq xs)) := (mkI_at (hN.below hS.2.2) (pw_pos n)).1; have hposI : 0 < pw n := pw_pos n
    go_simp
    exact hK.out _ _ _ rfl rfl rfl (Below.refl _ _)
  simp only [List.setIfInBounds_toArray, List.set_cons_zero, List.set_cons_succ]
  refine obs_step (Eq.trans (by simp only [List.getElem?_toArray, List.getElem?_cons_succ, List.getElem?_cons_zero]; exact rfl) rfl) rfl (fun w' hS hV K hK => ?_) ?_
  · simp only [List.mem_cons, List.not_mem_nil, or_false, forall_eq_or_imp, forall_eq, List.getD_cons_succ, List.getD_cons_zero, VIs, VAny] at hV
    obtain ⟨e0, e1, e2, e3, e4, e6, e7, e8, e9, e10, e11, e12⟩ := hV
    obtain ⟨q0, q1⟩ := hS.1.two; have hcN : w'.cell? ⟨gN, 0, none⟩ = some (.int .i64 (nrmL P sq xs)) := (mkI_at (hN.below hS.2.2) (pw_pos n)).1; have hposI : 0 < pw n := pw_pos n
    go_simp
    exact hK.out _ _ _ rfl rfl rfl (Below.refl _ _)
  simp only [List.setIfInBounds_toArray, List.set_cons_zero, List.set_cons_succ]
  refine obs_step (Eq.trans (by simp only [List.getElem?_toArray, List.getElem?_cons_succ, List.getElem?_cons_zero]; exact rfl) rfl) rfl (fun w' hS hV K hK => ?_) ?_
  · simp only [List.mem_cons, List.not_mem_nil, or_false, forall_eq_or_imp, forall_eq, List.getD_cons_succ, List.getD_cons_zero, VIs, VAny] at hV
    obtain ⟨e0, e1, e2, e3, e4, e5, e6, e7, e8, e9, e10, e11, e12, e13⟩ := hV
    obtain ⟨q0, q1⟩ := hS.1.two; have hcN : w'.cell? ⟨gN, 0, none⟩ = some (.int .i64 (nrmL P sq xs)) := (mkI_at (hN.below hS.2.2) (pw_pos n)).1; have hposI : 0 < pw n := pw_pos n
    go_simp
    exact hK.out _ _ _ rfl rfl rfl (Below.refl _ _)
  simp only [List.setIfInBounds_toArray, List.set_cons_zero, List.set_cons_succ]
  refine obs_step (Eq.trans (by simp only [List.getElem?_toArray, List.getElem?_cons_succ, List.getElem?_cons_zero]; exact rfl) rfl) rfl (fun w' hS hV K hK => ?_) ?_
  · simp only [List.mem_cons, List.not_mem_nil, or_false, forall_eq_or_imp, forall_eq, List.getD_cons_succ, List.getD_cons_zero, VIs, VAny] at hV
    obtain ⟨e0, e1, e2, e3, e4, e5, e6, e7, e8, e9, e10, e11, e12, e13, e14⟩ := hV
    obtain ⟨q0, q1⟩ := hS.1.two; have hcN : w'.cell? ⟨gN, 0, none⟩ = some (.int .i64 (nrmL P sq xs)) := (mkI_at (hN.below hS.2.2) (pw_pos n)).1; have hposI : 0 < pw n := pw_pos n
    go_simp
    exact hK.out _ _ _ rfl rfl rfl (Below.refl _ _)
  simp only [List.setIfInBounds_toArray, List.set_cons_zero, List.set_cons_succ]
  refine obs_step (Eq.trans (by simp only [List.getElem?_toArray, List.getElem?_cons_succ, List.getElem?_cons_zero]; exact rfl) rfl) rfl (fun w' hS hV K hK => ?_) ?_
  · simp only [List.mem_cons, List.not_mem_nil, or_false, forall_eq_or_imp, forall_eq, List.getD_cons_succ, List.getD_cons_zero, VIs, VAny] at hV
    obtain ⟨e0, e1, e2, e3, e4, e5, e6, e7, e8, e9, e10, e11, e12, e13, e14, e15⟩ := hV
    obtain ⟨q0, q1⟩ := hS.1.two; have hcN : w'.cell? ⟨gN, 0, none⟩ = some (.int .i64 (nrmL P sq xs)) := (mkI_at (hN.below hS.2.2) (pw_pos n)).1; have hposI : 0 < pw n := pw_pos n
    go_simp
    exact hK.out _ _ _ rfl rfl rfl (Below.refl _ _)
  simp only [List.setIfInBounds_toArray, List.set_cons_zero, List.set_cons_succ]
  refine obs_step (Eq.trans (by simp only [List.getElem?_toArray, List.getElem?_cons_succ, List.getElem?_cons_zero]; exact rfl) rfl) rfl (fun w' hS hV K hK => ?_) ?_
  · simp only [List.mem_cons, List.not_mem_nil, or_false, forall_eq_or_imp, forall_eq, List.getD_cons_succ, List.getD_cons_zero, VIs, VAny] at hV
    obtain ⟨e0, e1, e2, e3, e4, e5, e6, e7, e8, e9, e10, e11, e12, e13, e14, e15, e16⟩ := hV
    obtain ⟨q0, q1⟩ := hS.1.two; have hcN : w'.cell? ⟨gN, 0, none⟩ = some (.int .i64 (nrmL P sq xs)) := (mkI_at (hN.below hS.2.2) (pw_pos n)).1; have hposI : 0 < pw n := pw_pos n
    go_simp
    exact hK.out _ _ _ rfl rfl rfl (Below.refl _ _)
  simp only [List.setIfInBounds_toArray, List.set_cons_zero, List.set_cons_succ]
  refine obs_step (Eq.trans (by simp only [List.getElem?_toArray, List.getElem?_cons_succ, List.getElem?_cons_zero]; exact rfl) rfl) rfl (fun w' hS hV K hK => ?_) ?_
  · simp only [List.mem_cons, List.not_mem_nil, or_false, forall_eq_or_imp, forall_eq, List.getD_cons_succ, List.getD_cons_zero, VIs, VAny] at hV
    obtain ⟨e0, e1, e2, e3, e4, e5, e6, e7, e8, e9, e10, e11, e12, e13, e14, e15, e16, e17⟩ := hV
    obtain ⟨q0, q1⟩ := hS.1.two; have hcN : w'.cell? ⟨gN, 0, none⟩ = some (.int .i64 (nrmL P sq xs)) := (mkI_at (hN.below hS.2.2) (pw_pos n)).1; have hposI : 0 < pw n := pw_pos n
    go_simp
    exact hK.out _ _ _ rfl rfl rfl (Below.refl _ _)
  simp only [List.setIfInBounds_toArray, List.set_cons_zero, List.set_cons_succ]
  refine obs_step (Eq.trans (by simp only [List.getElem?_toArray, List.getElem?_cons_succ, List.getElem?_cons_zero]; exact rfl) rfl) rfl (fun w' hS hV K hK => ?_) ?_
  · simp only [List.mem_cons, List.not_mem_nil, or_false, forall_eq_or_imp, forall_eq, List.getD_cons_succ, List.getD_cons_zero, VIs, VAny] at hV
    obtain ⟨e0, e1, e2, e3, e4, e5, e6, e7, e8, e9, e10, e11, e12, e13, e14, e15, e16, e17⟩ := hV
    obtain ⟨q0, q1⟩ := hS.1.two; have hcN : w'.cell? ⟨gN, 0, none⟩ = some (.int .i64 (nrmL P sq xs)) := (mkI_at (hN.below hS.2.2) (pw_pos n)).1; have hposI : 0 < pw n := pw_pos n
    go_simp
    exact hK.out _ _ _ rfl rfl rfl (Below.refl _ _)
  simp only [List.setIfInBounds_toArray, List.set_cons_zero, List.set_cons_succ]
  refine obs_step (Eq.trans (by simp only [List.getElem?_toArray, List.getElem?_cons_succ, List.getElem?_cons_zero]; exact rfl) rfl) rfl (fun w' hS hV K hK => ?_) ?_
  · simp only [List.mem_cons, List.not_mem_nil, or_false, forall_eq_or_imp, forall_eq, List.getD_cons_succ, List.getD_cons_zero, VIs, VAny] at hV
    obtain ⟨e0, e1, e2, e3, e4, e5, e6, e7, e8, e9, e10, e11, e12, e13, e14, e15, e16, e17, e18, e19⟩ := hV
    obtain ⟨q0, q1⟩ := hS.1.two; have hcN : w'.cell? ⟨gN, 0, none⟩ = some (.int .i64 (nrmL P sq xs)) := (mkI_at (hN.below hS.2.2) (pw_pos n)).1; have hposI : 0 < pw n := pw_pos n
    go_simp
    exact hK.out _ _ _ rfl rfl rfl (Below.refl _ _)
  simp only [List.setIfInBounds_toArray, List.set_cons_zero, List.set_cons_succ]
  refine obs_step (Eq.trans (by simp only [List.getElem?_toArray, List.getElem?_cons_succ, List.getElem?_cons_zero]; exact rfl) rfl) rfl (fun w' hS hV K hK => ?_) ?_
  · simp only [List.mem_cons, List.not_mem_nil, or_false, forall_eq_or_imp, forall_eq, List.getD_cons_succ, List.getD_cons_zero, VIs, VAny] at hV
    obtain ⟨e0, e1, e2, e3, e4, e5, e6, e7, e8, e9, e10, e11, e12, e13, e14, e15, e16, e17, e18, e19, e20⟩ := hV
    obtain ⟨q0, q1⟩ := hS.1.two; have hcN : w'.cell? ⟨gN, 0, none⟩ = some (.int .i64 (nrmL P sq xs)) := (mkI_at (hN.below hS.2.2) (pw_pos n)).1; have hposI : 0 < pw n := pw_pos n
    go_simp
    exact hK.out _ _ _ rfl rfl rfl (Below.refl _ _)
  simp only [List.setIfInBounds_toArray, List.set_cons_zero, List.set_cons_succ]
  refine obs_step (Eq.trans (by simp only [List.getElem?_toArray, List.getElem?_cons_succ, List.getElem?_cons_zero]; exact rfl) rfl) rfl (fun w' hS hV K hK => ?_) ?_
  · simp only [List.mem_cons, List.not_mem_nil, or_false, forall_eq_or_imp, forall_eq, List.getD_cons_succ, List.getD_cons_zero, VIs, VAny] at hV
    obtain ⟨e0, e1, e2, e3, e4, e5, e6, e7, e8, e9, e10, e11, e12, e13, e14, e15, e16, e17, e18, e19, e20, e21⟩ := hV
    obtain ⟨q0, q1⟩ := hS.1.two; have hcN : w'.cell? ⟨gN, 0, none⟩ = some (.int .i64 (nrmL P sq xs)) := (mkI_at (hN.below hS.2.2) (pw_pos n)).1; have hposI : 0 < pw n := pw_pos n
    go_simp
    exact hK.out _ _ _ rfl rfl rfl (Below.refl _ _)
  simp only [List.setIfInBounds_toArray, List.set_cons_zero, List.set_cons_succ]
  refine fun w' hS hV => ?_
  have hV := fun i hi => hV i (List.mem_range.1 hi)
  simp only [List.range, List.range.loop, List.mem_cons, List.not_mem_nil, or_false, forall_eq_or_imp, forall_eq, List.getD_cons_succ, List.getD_cons_zero, VIs, VAny] at hV
  obtain ⟨e0, e1, e2, e3, e4, e5, e6, e7, e8, e9, e10, e11, e12, e13, e14, e15, e16, e17, e18, e19, e20, e21, e22⟩ := hV
  simp only [e0, e1, e2, e3, e4, e5, e6, e7, e8, e9, e10, e11, e12, e13, e14, e15, e16, e17, e18, e19, e20, e21, e22]
  clear e0 e1 e2 e3 e4 e5 e6 e7 e8 e9 e10 e11 e12 e13 e14 e15 e16 e17 e18 e19 e20 e21 e22
  refine wpAny_done (by kernel_rfl) ?_ _
  go_wp2
  go_ret
  exact ⟨ret_bool (by unfold versB; rw [H1.out]; rfl), hS.2.1⟩
set_option maxHeartbeats 3200000 in
set_option maxRecDepth 8000 in
theorem l07Is_B (P : Int) (A : Option Addr) (n c : Nat) (sq : List Int) (X : Option Addr) (cx : Nat) (xs : List Int) (w : World) (hp : 2 ≤ P) (hp2 : P ≤ 13) (hn : n ≤ 6) (ha : Rd w A n (ints sq)) (hs : NumsL P sq) (hx : Rd w X (pw n) (ints xs)) (hxs : NumsL P xs) (_hcx : pw n ≤ cx) (_HP : isP P = true) (h1 : ¬ nrmL P sq xs = 0) (h2 : onlyL (mulL P sq xs (revL P xs)) 0 = false) :
    Calls Tryz.prog 47 #[.agg #[.int .i64 P, .slice A n c], .slice X (pw n) cx] w fun e w' => e = .returned (.bool (versB P sq n xs)) ∧ Below w.heap.size w w' := by
  have hB0 : Below w.heap.size w (w.alloc (.cells #[.int .i64 P, .slice A n c] 29)) := (Below.refl _ _).alloc (Nat.le_refl _) _
  have k0 : Blk (w.alloc (.cells #[.int .i64 P, .slice A n c] 29)) w.heap.size 29 #[.int .i64 P, .slice A n c] := Blk.new _ _ _
  have HPW : pw n ≤ 65536 := Nat.le_trans (pw_le (show n ≤ 10 by omega)) (by decide)
  have HPW64 : pw n ≤ 64 := pw_le hn
  have HNN := mulL_nums (show 0 < P by omega) sq xs (revL P xs)
  have HSC : Hid (decide (mulL P sq xs (revL P xs) = scaleL P (bladeL n 0) (nrmL P sq xs)) = onlyL (mulL P sq xs (revL P xs)) 0) := Lib.hid (onlyL_scalar hp hn (by rw [mulL_len, hx.lenI]) HNN)
  have HEV := Lib.hid (evnV_neg (gs := gradesL xs) fun g hg => (gradesL_range xs g hg).1)
  have b1 : (nrmL P sq xs == 0) = false := by simp [h1]
  have H1 := Lib.hid b1
  have H2 := Lib.hid h2
  have HO : Hid (decide (mulL P sq xs (revL P xs) = scaleL P (bladeL n 0) (nrmL P sq xs)) = false) := Lib.hid (HSC.out.trans h2)
  clear h1 h2
  go_enter Tryz.func47, Tryz.ntmps47
  go_wp2_with fail
  refine (l04Reverse_any P A n c X (pw n) cx xs _ hp hp2 HPW64 (hx.below hB0) hxs).mono ?_
  rintro e w1 ⟨Bk, cB, rfl, hBk⟩
  have hB1 := hB0.trans (hBk.b.mono (by simp))
  have k1 := k0.below hBk.b k0.lt
  obtain ⟨q0, q1⟩ := k1.two
  clear k0 hB0
  go_wp2_with fail
  refine (l04Times_any P A n c sq X cx xs Bk cB _ _ hp hp2 hn (ha.below hB1) hs (hx.below hB1) hxs hBk.rd (sgnL_nums (by omega) revT hxs)).mono ?_
  rintro e w2 ⟨N, cN, rfl, hN⟩
  have hB2 := hB1.trans (hN.b.mono hB1.size)
  have k2 := k1.below hN.b k1.lt
  have hBk2 := hBk.below hN.b
  rcases hN.2.form with ⟨_, hz⟩ | ⟨gN, hgN, _, _⟩
  · exact absurd hz (by have := pw_pos n; omega)
  subst hgN
  clear q0 q1 k1 hB1 hBk
  go_wp2
  refine wp_obs 23 [[], [0], [0, 1], [0, 1, 2], [0, 1, 2, 3], [0, 1, 2, 3, 4], [0, 1, 2, 3, 4], [0, 1, 2, 3, 4, 6], [0, 1, 2, 3, 4], [0, 1, 2, 3, 4, 8], [0, 1, 2, 3, 4], [0, 1, 2, 3, 4, 10], [0, 1, 2, 3, 4, 10, 11], [0, 1, 2, 3, 4, 6, 7, 8, 9, 10, 11, 12], [0, 1, 2, 3, 4, 5, 6, 7, 8, 9, 10, 11, 12, 13], [0, 1, 2, 3, 4, 5, 6, 7, 8, 9, 10, 11, 12, 13, 14], [0, 1, 2, 3, 4, 5, 6, 7, 8, 9, 10, 11, 12, 13, 14, 15], [0, 1, 2, 3, 4, 5, 6, 7, 8, 9, 10, 11, 12, 13, 14, 15, 16], [0, 1, 2, 3, 4, 5, 6, 7, 8, 9, 10, 11, 12, 13, 14, 15, 16, 17], [0, 1, 2, 3, 4, 5, 6, 7, 8, 9, 10, 11, 12, 13, 14, 15, 16, 17], [0, 1, 2, 3, 4, 5, 6, 7, 8, 9, 10, 11, 12, 13, 14, 15, 16, 17, 18, 19], [0, 1, 2, 3, 4, 5, 6, 7, 8, 9, 10, 11, 12, 13, 14, 15, 16, 17, 18, 19, 20], [0, 1, 2, 3, 4, 5, 6, 7, 8, 9, 10, 11, 12, 13, 14, 15, 16, 17, 18, 19, 20, 21]] [VIs (.slice (some ⟨gN, 0, none⟩) (pw n) cN), VIs (.pointer (some ⟨gN, 0, none⟩)), VIs (.int .i64 (nrmL P sq xs)), VIs (.bool false), VIs (.bool false), VIs (.slice (some ⟨gN, 0, none⟩) (pw n) cN), VIs (.pointer (some ⟨w.heap.size, 0, none⟩)), VIs (.int .i64 P), VIs (.agg #[.int .i64 P, .slice A n c]), VSl w (pw n) (bladeL n 0), VIs (.slice (some ⟨gN, 0, none⟩) (pw n) cN), VIs (.pointer (some ⟨gN, 0, none⟩)), VIs (.int .i64 (nrmL P sq xs)), VSl w (pw n) (scaleL P (bladeL n 0) (nrmL P sq xs)), VIs (.bool false), VIs (.bool true), VIs (.bool true), VIs (.bool true), VIs undef, VIs undef, VIs undef, VIs undef, VIs (.bool true)] (fun w' => Blk w' w.heap.size 29 #[.int .i64 P, .slice A n c] ∧ Below w.heap.size w w' ∧ Below w2.heap.size w2 w') (by kernel_rfl) (by kernel_rfl) (fun _ _ h hb => ⟨h.1.below hb h.1.lt, h.2.1.trans (hb.mono h.2.1.size), h.2.2.trans (hb.mono h.2.2.size)⟩) (⟨k2.drew, hB2.drew, (Below.refl _ _).drew⟩) (fun x => ?_)
  refine obs_step (Eq.trans (by simp only [List.getElem?_toArray, List.getElem?_cons_zero]; exact rfl) rfl) rfl (fun w' hS hV K hK => ?_) ?_
  · obtain ⟨q0, q1⟩ := hS.1.two; have hcN : w'.cell? ⟨gN, 0, none⟩ = some (.int .i64 (nrmL P sq xs)) := (mkI_at (hN.below hS.2.2) (pw_pos n)).1; have hposI : 0 < pw n := pw_pos n
    go_simp
    exact hK.out _ _ _ rfl rfl rfl (Below.refl _ _)
  simp only [List.setIfInBounds_toArray, List.set_cons_zero, List.set_cons_succ]
  refine obs_step (Eq.trans (by simp only [List.getElem?_toArray, List.getElem?_cons_succ, List.getElem?_cons_zero]; exact rfl) rfl) rfl (fun w' hS hV K hK => ?_) ?_
  · simp only [List.mem_cons, List.not_mem_nil, or_false, forall_eq, List.getD_cons_succ, List.getD_cons_zero, VIs, VSl, VAny] at hV
    obtain e0 := hV
    obtain ⟨q0, q1⟩ := hS.1.two; have hcN : w'.cell? ⟨gN, 0, none⟩ = some (.int .i64 (nrmL P sq xs)) := (mkI_at (hN.below hS.2.2) (pw_pos n)).1; have hposI : 0 < pw n := pw_pos n
    go_simp
    exact hK.out _ _ _ rfl rfl rfl (Below.refl _ _)
  simp only [List.setIfInBounds_toArray, List.set_cons_zero, List.set_cons_succ]
  refine obs_step (Eq.trans (by simp only [List.getElem?_toArray, List.getElem?_cons_succ, List.getElem?_cons_zero]; exact rfl) rfl) rfl (fun w' hS hV K hK => ?_) ?_
  · simp only [List.mem_cons, List.not_mem_nil, or_false, forall_eq_or_imp, forall_eq, List.getD_cons_succ, List.getD_cons_zero, VIs, VSl, VAny] at hV
    obtain ⟨e0, e1⟩ := hV
    obtain ⟨q0, q1⟩ := hS.1.two; have hcN : w'.cell? ⟨gN, 0, none⟩ = some (.int .i64 (nrmL P sq xs)) := (mkI_at (hN.below hS.2.2) (pw_pos n)).1; have hposI : 0 < pw n := pw_pos n
    go_simp
    exact hK.out _ _ _ rfl rfl rfl (Below.refl _ _)
  simp only [List.setIfInBounds_toArray, List.set_cons_zero, List.set_cons_succ]
  refine obs_step (Eq.trans (by simp only [List.getElem?_toArray, List.getElem?_cons_succ, List.getElem?_cons_zero]; exact rfl) rfl) rfl (fun w' hS hV K hK => ?_) ?_
  · simp only [List.mem_cons, List.not_mem_nil, or_false, forall_eq_or_imp, forall_eq, List.getD_cons_succ, List.getD_cons_zero, VIs, VSl, VAny] at hV
    obtain ⟨e0, e1, e2⟩ := hV
    obtain ⟨q0, q1⟩ := hS.1.two; have hcN : w'.cell? ⟨gN, 0, none⟩ = some (.int .i64 (nrmL P sq xs)) := (mkI_at (hN.below hS.2.2) (pw_pos n)).1; have hposI : 0 < pw n := pw_pos n
    go_simp
    exact hK.out _ _ _ rfl rfl rfl (Below.refl _ _)
  simp only [List.setIfInBounds_toArray, List.set_cons_zero, List.set_cons_succ]
  refine obs_step (Eq.trans (by simp only [List.getElem?_toArray, List.getElem?_cons_succ, List.getElem?_cons_zero]; exact rfl) rfl) rfl (fun w' hS hV K hK => ?_) ?_
  · simp only [List.mem_cons, List.not_mem_nil, or_false, forall_eq_or_imp, forall_eq, List.getD_cons_succ, List.getD_cons_zero, VIs, VSl, VAny] at hV
    obtain ⟨e0, e1, e2, e3⟩ := hV
    obtain ⟨q0, q1⟩ := hS.1.two; have hcN : w'.cell? ⟨gN, 0, none⟩ = some (.int .i64 (nrmL P sq xs)) := (mkI_at (hN.below hS.2.2) (pw_pos n)).1; have hposI : 0 < pw n := pw_pos n
    go_simp
    exact hK.out _ _ _ rfl rfl rfl (Below.refl _ _)
  simp only [List.setIfInBounds_toArray, List.set_cons_zero, List.set_cons_succ]
  refine obs_step (Eq.trans (by simp only [List.getElem?_toArray, List.getElem?_cons_succ, List.getElem?_cons_zero]; exact rfl) rfl) rfl (fun w' hS hV K hK => ?_) ?_
  · simp only [List.mem_cons, List.not_mem_nil, or_false, forall_eq_or_imp, forall_eq, List.getD_cons_succ, List.getD_cons_zero, VIs, VSl, VAny] at hV
    obtain ⟨e0, e1, e2, e3, e4⟩ := hV
    obtain ⟨q0, q1⟩ := hS.1.two; have hcN : w'.cell? ⟨gN, 0, none⟩ = some (.int .i64 (nrmL P sq xs)) := (mkI_at (hN.below hS.2.2) (pw_pos n)).1; have hposI : 0 < pw n := pw_pos n
    go_simp
    exact hK.out _ _ _ rfl rfl rfl (Below.refl _ _)
  simp only [List.setIfInBounds_toArray, List.set_cons_zero, List.set_cons_succ]
  refine obs_step (Eq.trans (by simp only [List.getElem?_toArray, List.getElem?_cons_succ, List.getElem?_cons_zero]; exact rfl) rfl) rfl (fun w' hS hV K hK => ?_) ?_
  · simp only [List.mem_cons, List.not_mem_nil, or_false, forall_eq_or_imp, forall_eq, List.getD_cons_succ, List.getD_cons_zero, VIs, VSl, VAny] at hV
    obtain ⟨e0, e1, e2, e3, e4⟩ := hV
    obtain ⟨q0, q1⟩ := hS.1.two; have hcN : w'.cell? ⟨gN, 0, none⟩ = some (.int .i64 (nrmL P sq xs)) := (mkI_at (hN.below hS.2.2) (pw_pos n)).1; have hposI : 0 < pw n := pw_pos n
    go_simp
    exact hK.out _ _ _ rfl rfl rfl (Below.refl _ _)
  simp only [List.setIfInBounds_toArray, List.set_cons_zero, List.set_cons_succ]
  refine obs_step (Eq.trans (by simp only [List.getElem?_toArray, List.getElem?_cons_succ, List.getElem?_cons_zero]; exact rfl) rfl) rfl (fun w' hS hV K hK => ?_) ?_
  · simp only [List.mem_cons, List.not_mem_nil, or_false, forall_eq_or_imp, forall_eq, List.getD_cons_succ, List.getD_cons_zero, VIs, VSl, VAny] at hV
    obtain ⟨e0, e1, e2, e3, e4, e6⟩ := hV
    obtain ⟨q0, q1⟩ := hS.1.two; have hcN : w'.cell? ⟨gN, 0, none⟩ = some (.int .i64 (nrmL P sq xs)) := (mkI_at (hN.below hS.2.2) (pw_pos n)).1; have hposI : 0 < pw n := pw_pos n
    go_simp
    exact hK.out _ _ _ rfl rfl rfl (Below.refl _ _)
  simp only [List.setIfInBounds_toArray, List.set_cons_zero, List.set_cons_succ]
  refine obs_step (Eq.trans (by simp only [List.getElem?_toArray, List.getElem?_cons_succ, List.getElem?_cons_zero]; exact rfl) rfl) rfl (fun w' hS hV K hK => ?_) ?_
  · simp only [List.mem_cons, List.not_mem_nil, or_false, forall_eq_or_imp, forall_eq, List.getD_cons_succ, List.getD_cons_zero, VIs, VSl, VAny] at hV
    obtain ⟨e0, e1, e2, e3, e4⟩ := hV
    obtain ⟨q0, q1⟩ := hS.1.two; have hcN : w'.cell? ⟨gN, 0, none⟩ = some (.int .i64 (nrmL P sq xs)) := (mkI_at (hN.below hS.2.2) (pw_pos n)).1; have hposI : 0 < pw n := pw_pos n
    go_simp
    exact hK.out _ _ _ rfl rfl rfl (Below.refl _ _)
  simp only [List.setIfInBounds_toArray, List.set_cons_zero, List.set_cons_succ]
  refine obs_step (Eq.trans (by simp only [List.getElem?_toArray, List.getElem?_cons_succ, List.getElem?_cons_zero]; exact rfl) rfl) rfl (fun w' hS hV K hK => ?_) ?_
  · simp only [List.mem_cons, List.not_mem_nil, or_false, forall_eq_or_imp, forall_eq, List.getD_cons_succ, List.getD_cons_zero, VIs, VSl, VAny] at hV
    obtain ⟨e0, e1, e2, e3, e4, e8⟩ := hV
    obtain ⟨q0, q1⟩ := hS.1.two; have hcN : w'.cell? ⟨gN, 0, none⟩ = some (.int .i64 (nrmL P sq xs)) := (mkI_at (hN.below hS.2.2) (pw_pos n)).1; have hposI : 0 < pw n := pw_pos n
    go_simp
    refine (l04One_any P A n c _ (by omega)).mono ?_
    rintro e w1 ⟨A2, c2, rfl, hM⟩
    exact hK.out _ _ _ rfl rfl ⟨_, _, rfl, hM.after hS.2.1⟩ hM.b
  simp only [List.setIfInBounds_toArray, List.set_cons_zero, List.set_cons_succ]
  refine obs_step (Eq.trans (by simp only [List.getElem?_toArray, List.getElem?_cons_succ, List.getElem?_cons_zero]; exact rfl) rfl) rfl (fun w' hS hV K hK => ?_) ?_
  · simp only [List.mem_cons, List.not_mem_nil, or_false, forall_eq_or_imp, forall_eq, List.getD_cons_succ, List.getD_cons_zero, VIs, VSl, VAny] at hV
    obtain ⟨e0, e1, e2, e3, e4⟩ := hV
    obtain ⟨q0, q1⟩ := hS.1.two; have hcN : w'.cell? ⟨gN, 0, none⟩ = some (.int .i64 (nrmL P sq xs)) := (mkI_at (hN.below hS.2.2) (pw_pos n)).1; have hposI : 0 < pw n := pw_pos n
    go_simp
    exact hK.out _ _ _ rfl rfl rfl (Below.refl _ _)
  simp only [List.setIfInBounds_toArray, List.set_cons_zero, List.set_cons_succ]
  refine obs_step (Eq.trans (by simp only [List.getElem?_toArray, List.getElem?_cons_succ, List.getElem?_cons_zero]; exact rfl) rfl) rfl (fun w' hS hV K hK => ?_) ?_
  · simp only [List.mem_cons, List.not_mem_nil, or_false, forall_eq_or_imp, forall_eq, List.getD_cons_succ, List.getD_cons_zero, VIs, VSl, VAny] at hV
    obtain ⟨e0, e1, e2, e3, e4, e10⟩ := hV
    obtain ⟨q0, q1⟩ := hS.1.two; have hcN : w'.cell? ⟨gN, 0, none⟩ = some (.int .i64 (nrmL P sq xs)) := (mkI_at (hN.below hS.2.2) (pw_pos n)).1; have hposI : 0 < pw n := pw_pos n
    go_simp
    exact hK.out _ _ _ rfl rfl rfl (Below.refl _ _)
  simp only [List.setIfInBounds_toArray, List.set_cons_zero, List.set_cons_succ]
  refine obs_step (Eq.trans (by simp only [List.getElem?_toArray, List.getElem?_cons_succ, List.getElem?_cons_zero]; exact rfl) rfl) rfl (fun w' hS hV K hK => ?_) ?_
  · simp only [List.mem_cons, List.not_mem_nil, or_false, forall_eq_or_imp, forall_eq, List.getD_cons_succ, List.getD_cons_zero, VIs, VSl, VAny] at hV
    obtain ⟨e0, e1, e2, e3, e4, e10, e11⟩ := hV
    obtain ⟨q0, q1⟩ := hS.1.two; have hcN : w'.cell? ⟨gN, 0, none⟩ = some (.int .i64 (nrmL P sq xs)) := (mkI_at (hN.below hS.2.2) (pw_pos n)).1; have hposI : 0 < pw n := pw_pos n
    go_simp
    exact hK.out _ _ _ rfl rfl rfl (Below.refl _ _)
  simp only [List.setIfInBounds_toArray, List.set_cons_zero, List.set_cons_succ]
  refine obs_step (Eq.trans (by simp only [List.getElem?_toArray, List.getElem?_cons_succ, List.getElem?_cons_zero]; exact rfl) rfl) rfl (fun w' hS hV K hK => ?_) ?_
  · simp only [List.mem_cons, List.not_mem_nil, or_false, forall_eq_or_imp, forall_eq, List.getD_cons_succ, List.getD_cons_zero, VIs, VSl, VAny] at hV
    obtain ⟨e0, e1, e2, e3, e4, e6, e7, e8, ⟨A9, c9, e9, h9⟩, e10, e11, e12⟩ := hV
    obtain ⟨q0, q1⟩ := hS.1.two; have hcN : w'.cell? ⟨gN, 0, none⟩ = some (.int .i64 (nrmL P sq xs)) := (mkI_at (hN.below hS.2.2) (pw_pos n)).1; have hposI : 0 < pw n := pw_pos n
    go_simp
    refine (l02Scale_any P _ (pw n) _ (nrmL P sq xs) (bladeL n 0) _ hp hp2 HPW h9.rd (bladeL_nums hp n 0) (by have := (nrmL_small hp sq xs); omega) (by have := (nrmL_small hp sq xs); omega)).mono ?_
    rintro e w1 ⟨A2, c2, rfl, hM⟩
    exact hK.out _ _ _ rfl rfl ⟨_, _, rfl, hM.after hS.2.1⟩ hM.b
  simp only [List.setIfInBounds_toArray, List.set_cons_zero, List.set_cons_succ]
  refine obs_step (Eq.trans (by simp only [List.getElem?_toArray, List.getElem?_cons_succ, List.getElem?_cons_zero]; exact rfl) rfl) rfl (fun w' hS hV K hK => ?_) ?_
  · simp only [List.mem_cons, List.not_mem_nil, or_false, forall_eq_or_imp, forall_eq, List.getD_cons_succ, List.getD_cons_zero, VIs, VSl, VAny] at hV
    obtain ⟨e0, e1, e2, e3, e4, e5, e6, e7, e8, ⟨A9, c9, e9, h9⟩, e10, e11, e12, ⟨A13, c13, e13, h13⟩⟩ := hV
    obtain ⟨q0, q1⟩ := hS.1.two; have hcN : w'.cell? ⟨gN, 0, none⟩ = some (.int .i64 (nrmL P sq xs)) := (mkI_at (hN.below hS.2.2) (pw_pos n)).1; have hposI : 0 < pw n := pw_pos n
    go_simp
    refine (l01Same_b _ _ _ _ _ _ _ _ _ (by omega) (by omega) (hN.rd.below hS.2.2) h13.rd HO.out).mono ?_
    rintro e w1 ⟨rfl, j, rfl⟩
    exact hK.out _ _ _ rfl rfl rfl (below_drewN (Below.refl _ _) _)
  simp only [List.setIfInBounds_toArray, List.set_cons_zero, List.set_cons_succ]
  refine obs_step (Eq.trans (by simp only [List.getElem?_toArray, List.getElem?_cons_succ, List.getElem?_cons_zero]; exact rfl) rfl) rfl (fun w' hS hV K hK => ?_) ?_
  · simp only [List.mem_cons, List.not_mem_nil, or_false, forall_eq_or_imp, forall_eq, List.getD_cons_succ, List.getD_cons_zero, VIs, VSl, VAny] at hV
    obtain ⟨e0, e1, e2, e3, e4, e5, e6, e7, e8, ⟨A9, c9, e9, h9⟩, e10, e11, e12, ⟨A13, c13, e13, h13⟩, e14⟩ := hV
    obtain ⟨q0, q1⟩ := hS.1.two; have hcN : w'.cell? ⟨gN, 0, none⟩ = some (.int .i64 (nrmL P sq xs)) := (mkI_at (hN.below hS.2.2) (pw_pos n)).1; have hposI : 0 < pw n := pw_pos n
    go_simp
    exact hK.out _ _ _ rfl rfl rfl (Below.refl _ _)
  simp only [List.setIfInBounds_toArray, List.set_cons_zero, List.set_cons_succ]
  refine obs_step (Eq.trans (by simp only [List.getElem?_toArray, List.getElem?_cons_succ, List.getElem?_cons_zero]; exact rfl) rfl) rfl (fun w' hS hV K hK => ?_) ?_
  · simp only [List.mem_cons, List.not_mem_nil, or_false, forall_eq_or_imp, forall_eq, List.getD_cons_succ, List.getD_cons_zero, VIs, VSl, VAny] at hV
    obtain ⟨e0, e1, e2, e3, e4, e5, e6, e7, e8, ⟨A9, c9, e9, h9⟩, e10, e11, e12, ⟨A13, c13, e13, h13⟩, e14, e15⟩ := hV
    obtain ⟨q0, q1⟩ := hS.1.two; have hcN : w'.cell? ⟨gN, 0, none⟩ = some (.int .i64 (nrmL P sq xs)) := (mkI_at (hN.below hS.2.2) (pw_pos n)).1; have hposI : 0 < pw n := pw_pos n
    go_simp
    exact hK.out _ _ _ rfl rfl rfl (Below.refl _ _)
  simp only [List.setIfInBounds_toArray, List.set_cons_zero, List.set_cons_succ]
  refine obs_step (Eq.trans (by simp only [List.getElem?_toArray, List.getElem?_cons_succ, List.getElem?_cons_zero]; exact rfl) rfl) rfl (fun w' hS hV K hK => ?_) ?_
  · simp only [List.mem_cons, List.not_mem_nil, or_false, forall_eq_or_imp, forall_eq, List.getD_cons_succ, List.getD_cons_zero, VIs, VSl, VAny] at hV
    obtain ⟨e0, e1, e2, e3, e4, e5, e6, e7, e8, ⟨A9, c9, e9, h9⟩, e10, e11, e12, ⟨A13, c13, e13, h13⟩, e14, e15, e16⟩ := hV
    obtain ⟨q0, q1⟩ := hS.1.two; have hcN : w'.cell? ⟨gN, 0, none⟩ = some (.int .i64 (nrmL P sq xs)) := (mkI_at (hN.below hS.2.2) (pw_pos n)).1; have hposI : 0 < pw n := pw_pos n
    go_simp
    exact hK.out _ _ _ rfl rfl rfl (Below.refl _ _)
  simp only [List.setIfInBounds_toArray, List.set_cons_zero, List.set_cons_succ]
  refine obs_step (Eq.trans (by simp only [List.getElem?_toArray, List.getElem?_cons_succ, List.getElem?_cons_zero]; exact rfl) rfl) rfl (fun w' hS hV K hK => ?_) ?_
  · simp only [List.mem_cons, List.not_mem_nil, or_false, forall_eq_or_imp, forall_eq, List.getD_cons_succ, List.getD_cons_zero, VIs, VSl, VAny] at hV
    obtain ⟨e0, e1, e2, e3, e4, e5, e6, e7, e8, ⟨A9, c9, e9, h9⟩, e10, e11, e12, ⟨A13, c13, e13, h13⟩, e14, e15, e16, e17⟩ := hV
    obtain ⟨q0, q1⟩ := hS.1.two; have hcN : w'.cell? ⟨gN, 0, none⟩ = some (.int .i64 (nrmL P sq xs)) := (mkI_at (hN.below hS.2.2) (pw_pos n)).1; have hposI : 0 < pw n := pw_pos n
    go_simp
    exact hK.out _ _ _ rfl rfl rfl (Below.refl _ _)
  simp only [List.setIfInBounds_toArray, List.set_cons_zero, List.set_cons_succ]
  refine obs_step (Eq.trans (by simp only [List.getElem?_toArray, List.getElem?_cons_succ, List.getElem?_cons_zero]; exact rfl) rfl) rfl (fun w' hS hV K hK => ?_) ?_
  · simp only [List.mem_cons, List.not_mem_nil, or_false, forall_eq_or_imp, forall_eq, List.getD_cons_succ, List.getD_cons_zero, VIs, VSl, VAny] at hV
    obtain ⟨e0, e1, e2, e3, e4, e5, e6, e7, e8, ⟨A9, c9, e9, h9⟩, e10, e11, e12, ⟨A13, c13, e13, h13⟩, e14, e15, e16, e17⟩ := hV
    obtain ⟨q0, q1⟩ := hS.1.two; have hcN : w'.cell? ⟨gN, 0, none⟩ = some (.int .i64 (nrmL P sq xs)) := (mkI_at (hN.below hS.2.2) (pw_pos n)).1; have hposI : 0 < pw n := pw_pos n
    go_simp
    exact hK.out _ _ _ rfl rfl rfl (Below.refl _ _)
  simp only [List.setIfInBounds_toArray, List.set_cons_zero, List.set_cons_succ]
  refine obs_step (Eq.trans (by simp only [List.getElem?_toArray, List.getElem?_cons_succ, List.getElem?_cons_zero]; exact rfl) rfl) rfl (fun w' hS hV K hK => ?_) ?_
  · simp only [List.mem_cons, List.not_mem_nil, or_false, forall_eq_or_imp, forall_eq, List.getD_cons_succ, List.getD_cons_zero, VIs, VSl, VAny] at hV
    obtain ⟨e0, e1, e2, e3, e4, e5, e6, e7, e8, ⟨A9, c9, e9, h9⟩, e10, e11, e12, ⟨A13, c13, e13, h13⟩, e14, e15, e16, e17, e18, e19⟩ := hV
    obtain ⟨q0, q1⟩ := hS.1.two; have hcN : w'.cell? ⟨gN, 0, none⟩ = some (.int .i64 (nrmL P sq xs)) := (mkI_at (hN.below hS.2.2) (pw_pos n)).1; have hposI : 0 < pw n := pw_pos n
    go_simp
    exact hK.out _ _ _ rfl rfl rfl (Below.refl _ _)
  simp only [List.setIfInBounds_toArray, List.set_cons_zero, List.set_cons_succ]
  refine obs_step (Eq.trans (by simp only [List.getElem?_toArray, List.getElem?_cons_succ, List.getElem?_cons_zero]; exact rfl) rfl) rfl (fun w' hS hV K hK => ?_) ?_
  · simp only [List.mem_cons, List.not_mem_nil, or_false, forall_eq_or_imp, forall_eq, List.getD_cons_succ, List.getD_cons_zero, VIs, VSl, VAny] at hV
    obtain ⟨e0, e1, e2, e3, e4, e5, e6, e7, e8, ⟨A9, c9, e9, h9⟩, e10, e11, e12, ⟨A13, c13, e13, h13⟩, e14, e15, e16, e17, e18, e19, e20⟩ := hV
    obtain ⟨q0, q1⟩ := hS.1.two; have hcN : w'.cell? ⟨gN, 0, none⟩ = some (.int .i64 (nrmL P sq xs)) := (mkI_at (hN.below hS.2.2) (pw_pos n)).1; have hposI : 0 < pw n := pw_pos n
    go_simp
    exact hK.out _ _ _ rfl rfl rfl (Below.refl _ _)
  simp only [List.setIfInBounds_toArray, List.set_cons_zero, List.set_cons_succ]
  refine obs_step (Eq.trans (by simp only [List.getElem?_toArray, List.getElem?_cons_succ, List.getElem?_cons_zero]; exact rfl) rfl) rfl (fun w' hS hV K hK => ?_) ?_
  · simp only [List.mem_cons, List.not_mem_nil, or_false, forall_eq_or_imp, forall_eq, List.getD_cons_succ, List.getD_cons_zero, VIs, VSl, VAny] at hV
    obtain ⟨e0, e1, e2, e3, e4, e5, e6, e7, e8, ⟨A9, c9, e9, h9⟩, e10, e11, e12, ⟨A13, c13, e13, h13⟩, e14, e15, e16, e17, e18, e19, e20, e21⟩ := hV
    obtain ⟨q0, q1⟩ := hS.1.two; have hcN : w'.cell? ⟨gN, 0, none⟩ = some (.int .i64 (nrmL P sq xs)) := (mkI_at (hN.below hS.2.2) (pw_pos n)).1; have hposI : 0 < pw n := pw_pos n
    go_simp
    exact hK.out _ _ _ rfl rfl rfl (Below.refl _ _)
  simp only [List.setIfInBounds_toArray, List.set_cons_zero, List.set_cons_succ]
  refine fun w' hS hV => ?_
  have hV := fun i hi => hV i (List.mem_range.1 hi)
  simp only [List.range, List.range.loop, List.mem_cons, List.not_mem_nil, or_false, forall_eq_or_imp, forall_eq, List.getD_cons_succ, List.getD_cons_zero, VIs, VSl, VAny] at hV
  obtain ⟨e0, e1, e2, e3, e4, e5, e6, e7, e8, ⟨A9, c9, e9, h9⟩, e10, e11, e12, ⟨A13, c13, e13, h13⟩, e14, e15, e16, e17, e18, e19, e20, e21, e22⟩ := hV
  simp only [e0, e1, e2, e3, e4, e5, e6, e7, e8, e9, e10, e11, e12, e13, e14, e15, e16, e17, e18, e19, e20, e21, e22]
  clear e0 e1 e2 e3 e4 e5 e6 e7 e8 e9 e10 e11 e12 e13 e14 e15 e16 e17 e18 e19 e20 e21 e22
  refine wpAny_done (by kernel_rfl) ?_ _
  go_wp2
  go_ret
  exact ⟨ret_bool (by unfold versB; rw [H1.out, H2.out]; rfl), hS.2.1⟩
set_option maxHeartbeats 3200000 in
set_option maxRecDepth 8000 in
theorem l07Is_C (P : Int) (A : Option Addr) (n c : Nat) (sq : List Int) (X : Option Addr) (cx : Nat) (xs : List Int) (w : World) (hp : 2 ≤ P) (hp2 : P ≤ 13) (hn : n ≤ 6) (ha : Rd w A n (ints sq)) (hs : NumsL P sq) (hx : Rd w X (pw n) (ints xs)) (hxs : NumsL P xs) (_hcx : pw n ≤ cx) (_HP : isP P = true) (h1 : ¬ nrmL P sq xs = 0) (h2 : onlyL (mulL P sq xs (revL P xs)) 0 = true) (h3 : mixB (gradesL xs) = true) :
    Calls Tryz.prog 47 #[.agg #[.int .i64 P, .slice A n c], .slice X (pw n) cx] w fun e w' => e = .returned (.bool (versB P sq n xs)) ∧ Below w.heap.size w w' := by
  have hB0 : Below w.heap.size w (w.alloc (.cells #[.int .i64 P, .slice A n c] 29)) := (Below.refl _ _).alloc (Nat.le_refl _) _
  have k0 : Blk (w.alloc (.cells #[.int .i64 P, .slice A n c] 29)) w.heap.size 29 #[.int .i64 P, .slice A n c] := Blk.new _ _ _
  have HPW : pw n ≤ 65536 := Nat.le_trans (pw_le (show n ≤ 10 by omega)) (by decide)
  have HPW64 : pw n ≤ 64 := pw_le hn
  have HNN := mulL_nums (show 0 < P by omega) sq xs (revL P xs)
  have HSC : Hid (decide (mulL P sq xs (revL P xs) = scaleL P (bladeL n 0) (nrmL P sq xs)) = onlyL (mulL P sq xs (revL P xs)) 0) := Lib.hid (onlyL_scalar hp hn (by rw [mulL_len, hx.lenI]) HNN)
  have HEV := Lib.hid (evnV_neg (gs := gradesL xs) fun g hg => (gradesL_range xs g hg).1)
  have b1 : (nrmL P sq xs == 0) = false := by simp [h1]
  have H1 := Lib.hid b1
  have H2 := Lib.hid h2
  have H3 := Lib.hid h3
  have HO : Hid (decide (mulL P sq xs (revL P xs) = scaleL P (bladeL n 0) (nrmL P sq xs)) = true) := Lib.hid (HSC.out.trans h2)
  have hev : decide (evnV (gradesL xs) < 0) = true := HEV.out.trans h3
  clear h1 h2 h3
  go_enter Tryz.func47, Tryz.ntmps47
  go_wp2_with fail
  refine (l04Reverse_any P A n c X (pw n) cx xs _ hp hp2 HPW64 (hx.below hB0) hxs).mono ?_
  rintro e w1 ⟨Bk, cB, rfl, hBk⟩
  have hB1 := hB0.trans (hBk.b.mono (by simp))
  have k1 := k0.below hBk.b k0.lt
  obtain ⟨q0, q1⟩ := k1.two
  clear k0 hB0
  go_wp2_with fail
  refine (l04Times_any P A n c sq X cx xs Bk cB _ _ hp hp2 hn (ha.below hB1) hs (hx.below hB1) hxs hBk.rd (sgnL_nums (by omega) revT hxs)).mono ?_
  rintro e w2 ⟨N, cN, rfl, hN⟩
  have hB2 := hB1.trans (hN.b.mono hB1.size)
  have k2 := k1.below hN.b k1.lt
  have hBk2 := hBk.below hN.b
  rcases hN.2.form with ⟨_, hz⟩ | ⟨gN, hgN, _, _⟩
  · exact absurd hz (by have := pw_pos n; omega)
  subst hgN
  clear q0 q1 k1 hB1 hBk
  go_wp2
  refine wp_obs 23 [[], [0], [0, 1], [0, 1, 2], [0, 1, 2, 3], [0, 1, 2, 3, 4], [0, 1, 2, 3, 4], [0, 1, 2, 3, 4, 6], [0, 1, 2, 3, 4], [0, 1, 2, 3, 4, 8], [0, 1, 2, 3, 4], [0, 1, 2, 3, 4, 10], [0, 1, 2, 3, 4, 10, 11], [0, 1, 2, 3, 4, 6, 7, 8, 9, 10, 11, 12], [0, 1, 2, 3, 4, 5, 6, 7, 8, 9, 10, 11, 12, 13], [0, 1, 2, 3, 4, 5, 6, 7, 8, 9, 10, 11, 12, 13, 14], [0, 1, 2, 3, 4, 5, 6, 7, 8, 9, 10, 11, 12, 13, 14, 15], [0, 1, 2, 3, 4, 5, 6, 7, 8, 9, 10, 11, 12, 13, 14, 15, 16], [0, 1, 2, 3, 4, 5, 6, 7, 8, 9, 10, 11, 12, 13, 14, 15, 16, 17], [0, 1, 2, 3, 4, 5, 6, 7, 8, 9, 10, 11, 12, 13, 14, 15, 16, 17], [0, 1, 2, 3, 4, 5, 6, 7, 8, 9, 10, 11, 12, 13, 14, 15, 16, 17, 18, 19], [0, 1, 2, 3, 4, 5, 6, 7, 8, 9, 10, 11, 12, 13, 14, 15, 16, 17, 18, 19, 20], [0, 1, 2, 3, 4, 5, 6, 7, 8, 9, 10, 11, 12, 13, 14, 15, 16, 17, 18, 19, 20, 21]] [VIs (.slice (some ⟨gN, 0, none⟩) (pw n) cN), VIs (.pointer (some ⟨gN, 0, none⟩)), VIs (.int .i64 (nrmL P sq xs)), VIs (.bool false), VIs (.bool false), VIs (.slice (some ⟨gN, 0, none⟩) (pw n) cN), VIs (.pointer (some ⟨w.heap.size, 0, none⟩)), VIs (.int .i64 P), VIs (.agg #[.int .i64 P, .slice A n c]), VSl w (pw n) (bladeL n 0), VIs (.slice (some ⟨gN, 0, none⟩) (pw n) cN), VIs (.pointer (some ⟨gN, 0, none⟩)), VIs (.int .i64 (nrmL P sq xs)), VSl w (pw n) (scaleL P (bladeL n 0) (nrmL P sq xs)), VIs (.bool true), VIs (.bool false), VIs (.bool false), VIs (.bool false), VIs (.agg #[.int .i64 P, .slice A n c]), VIs (.slice X (pw n) cx), VIs (.int .i64 (evnV (gradesL xs))), VIs (.bool true), VIs (.bool true)] (fun w' => Blk w' w.heap.size 29 #[.int .i64 P, .slice A n c] ∧ Below w.heap.size w w' ∧ Below w2.heap.size w2 w') (by kernel_rfl) (by kernel_rfl) (fun _ _ h hb => ⟨h.1.below hb h.1.lt, h.2.1.trans (hb.mono h.2.1.size), h.2.2.trans (hb.mono h.2.2.size)⟩) (⟨k2.drew, hB2.drew, (Below.refl _ _).drew⟩) (fun x => ?_)
  refine obs_step (Eq.trans (by simp only [List.getElem?_toArray, List.getElem?_cons_zero]; exact rfl) rfl) rfl (fun w' hS hV K hK => ?_) ?_
  · obtain ⟨q0, q1⟩ := hS.1.two; have hcN : w'.cell? ⟨gN, 0, none⟩ = some (.int .i64 (nrmL P sq xs)) := (mkI_at (hN.below hS.2.2) (pw_pos n)).1; have hposI : 0 < pw n := pw_pos n
    go_simp
    exact hK.out _ _ _ rfl rfl rfl (Below.refl _ _)
  simp only [List.setIfInBounds_toArray, List.set_cons_zero, List.set_cons_succ]
  refine obs_step (Eq.trans (by simp only [List.getElem?_toArray, List.getElem?_cons_succ, List.getElem?_cons_zero]; exact rfl) rfl) rfl (fun w' hS hV K hK => ?_) ?_
  · simp only [List.mem_cons, List.not_mem_nil, or_false, forall_eq, List.getD_cons_succ, List.getD_cons_zero, VIs, VSl, VAny] at hV
    obtain e0 := hV
    obtain ⟨q0, q1⟩ := hS.1.two; have hcN : w'.cell? ⟨gN, 0, none⟩ = some (.int .i64 (nrmL P sq xs)) := (mkI_at (hN.below hS.2.2) (pw_pos n)).1; have hposI : 0 < pw n := pw_pos n
    go_simp
    exact hK.out _ _ _ rfl rfl rfl (Below.refl _ _)
  simp only [List.setIfInBounds_toArray, List.set_cons_zero, List.set_cons_succ]
  refine obs_step (Eq.trans (by simp only [List.getElem?_toArray, List.getElem?_cons_succ, List.getElem?_cons_zero]; exact rfl) rfl) rfl (fun w' hS hV K hK => ?_) ?_
  · simp only [List.mem_cons, List.not_mem_nil, or_false, forall_eq_or_imp, forall_eq, List.getD_cons_succ, List.getD_cons_zero, VIs, VSl, VAny] at hV
    obtain ⟨e0, e1⟩ := hV
    obtain ⟨q0, q1⟩ := hS.1.two; have hcN : w'.cell? ⟨gN, 0, none⟩ = some (.int .i64 (nrmL P sq xs)) := (mkI_at (hN.below hS.2.2) (pw_pos n)).1; have hposI : 0 < pw n := pw_pos n
    go_simp
    exact hK.out _ _ _ rfl rfl rfl (Below.refl _ _)
  simp only [List.setIfInBounds_toArray, List.set_cons_zero, List.set_cons_succ]
  refine obs_step (Eq.trans (by simp only [List.getElem?_toArray, List.getElem?_cons_succ, List.getElem?_cons_zero]; exact rfl) rfl) rfl (fun w' hS hV K hK => ?_) ?_
  · simp only [List.mem_cons, List.not_mem_nil, or_false, forall_eq_or_imp, forall_eq, List.getD_cons_succ, List.getD_cons_zero, VIs, VSl, VAny] at hV
    obtain ⟨e0, e1, e2⟩ := hV
    obtain ⟨q0, q1⟩ := hS.1.two; have hcN : w'.cell? ⟨gN, 0, none⟩ = some (.int .i64 (nrmL P sq xs)) := (mkI_at (hN.below hS.2.2) (pw_pos n)).1; have hposI : 0 < pw n := pw_pos n
    go_simp
    exact hK.out _ _ _ rfl rfl rfl (Below.refl _ _)
  simp only [List.setIfInBounds_toArray, List.set_cons_zero, List.set_cons_succ]
  refine obs_step (Eq.trans (by simp only [List.getElem?_toArray, List.getElem?_cons_succ, List.getElem?_cons_zero]; exact rfl) rfl) rfl (fun w' hS hV K hK => ?_) ?_
  · simp only [List.mem_cons, List.not_mem_nil, or_false, forall_eq_or_imp, forall_eq, List.getD_cons_succ, List.getD_cons_zero, VIs, VSl, VAny] at hV
    obtain ⟨e0, e1, e2, e3⟩ := hV
    obtain ⟨q0, q1⟩ := hS.1.two; have hcN : w'.cell? ⟨gN, 0, none⟩ = some (.int .i64 (nrmL P sq xs)) := (mkI_at (hN.below hS.2.2) (pw_pos n)).1; have hposI : 0 < pw n := pw_pos n
    go_simp
    exact hK.out _ _ _ rfl rfl rfl (Below.refl _ _)
  simp only [List.setIfInBounds_toArray, List.set_cons_zero, List.set_cons_succ]
  refine obs_step (Eq.trans (by simp only [List.getElem?_toArray, List.getElem?_cons_succ, List.getElem?_cons_zero]; exact rfl) rfl) rfl (fun w' hS hV K hK => ?_) ?_
  · simp only [List.mem_cons, List.not_mem_nil, or_false, forall_eq_or_imp, forall_eq, List.getD_cons_succ, List.getD_cons_zero, VIs, VSl, VAny] at hV
    obtain ⟨e0, e1, e2, e3, e4⟩ := hV
    obtain ⟨q0, q1⟩ := hS.1.two; have hcN : w'.cell? ⟨gN, 0, none⟩ = some (.int .i64 (nrmL P sq xs)) := (mkI_at (hN.below hS.2.2) (pw_pos n)).1; have hposI : 0 < pw n := pw_pos n
    go_simp
    exact hK.out _ _ _ rfl rfl rfl (Below.refl _ _)
  simp only [List.setIfInBounds_toArray, List.set_cons_zero, List.set_cons_succ]
  refine obs_step (Eq.trans (by simp only [List.getElem?_toArray, List.getElem?_cons_succ, List.getElem?_cons_zero]; exact rfl) rfl) rfl (fun w' hS hV K hK => ?_) ?_
  · simp only [List.mem_cons, List.not_mem_nil, or_false, forall_eq_or_imp, forall_eq, List.getD_cons_succ, List.getD_cons_zero, VIs, VSl, VAny] at hV
    obtain ⟨e0, e1, e2, e3, e4⟩ := hV
    obtain ⟨q0, q1⟩ := hS.1.two; have hcN : w'.cell? ⟨gN, 0, none⟩ = some (.int .i64 (nrmL P sq xs)) := (mkI_at (hN.below hS.2.2) (pw_pos n)).1; have hposI : 0 < pw n := pw_pos n
    go_simp
    exact hK.out _ _ _ rfl rfl rfl (Below.refl _ _)
  simp only [List.setIfInBounds_toArray, List.set_cons_zero, List.set_cons_succ]
  refine obs_step (Eq.trans (by simp only [List.getElem?_toArray, List.getElem?_cons_succ, List.getElem?_cons_zero]; exact rfl) rfl) rfl (fun w' hS hV K hK => ?_) ?_
  · simp only [List.mem_cons, List.not_mem_nil, or_false, forall_eq_or_imp, forall_eq, List.getD_cons_succ, List.getD_cons_zero, VIs, VSl, VAny] at hV
    obtain ⟨e0, e1, e2, e3, e4, e6⟩ := hV
    obtain ⟨q0, q1⟩ := hS.1.two; have hcN : w'.cell? ⟨gN, 0, none⟩ = some (.int .i64 (nrmL P sq xs)) := (mkI_at (hN.below hS.2.2) (pw_pos n)).1; have hposI : 0 < pw n := pw_pos n
    go_simp
    exact hK.out _ _ _ rfl rfl rfl (Below.refl _ _)
  simp only [List.setIfInBounds_toArray, List.set_cons_zero, List.set_cons_succ]
  refine obs_step (Eq.trans (by simp only [List.getElem?_toArray, List.getElem?_cons_succ, List.getElem?_cons_zero]; exact rfl) rfl) rfl (fun w' hS hV K hK => ?_) ?_
  · simp only [List.mem_cons, List.not_mem_nil, or_false, forall_eq_or_imp, forall_eq, List.getD_cons_succ, List.getD_cons_zero, VIs, VSl, VAny] at hV
    obtain ⟨e0, e1, e2, e3, e4⟩ := hV
    obtain ⟨q0, q1⟩ := hS.1.two; have hcN : w'.cell? ⟨gN, 0, none⟩ = some (.int .i64 (nrmL P sq xs)) := (mkI_at (hN.below hS.2.2) (pw_pos n)).1; have hposI : 0 < pw n := pw_pos n
    go_simp
    exact hK.out _ _ _ rfl rfl rfl (Below.refl _ _)
  simp only [List.setIfInBounds_toArray, List.set_cons_zero, List.set_cons_succ]
  refine obs_step (Eq.trans (by simp only [List.getElem?_toArray, List.getElem?_cons_succ, List.getElem?_cons_zero]; exact rfl) rfl) rfl (fun w' hS hV K hK => ?_) ?_
  · simp only [List.mem_cons, List.not_mem_nil, or_false, forall_eq_or_imp, forall_eq, List.getD_cons_succ, List.getD_cons_zero, VIs, VSl, VAny] at hV
    obtain ⟨e0, e1, e2, e3, e4, e8⟩ := hV
    obtain ⟨q0, q1⟩ := hS.1.two; have hcN : w'.cell? ⟨gN, 0, none⟩ = some (.int .i64 (nrmL P sq xs)) := (mkI_at (hN.below hS.2.2) (pw_pos n)).1; have hposI : 0 < pw n := pw_pos n
    go_simp
    refine (l04One_any P A n c _ (by omega)).mono ?_
    rintro e w1 ⟨A2, c2, rfl, hM⟩
    exact hK.out _ _ _ rfl rfl ⟨_, _, rfl, hM.after hS.2.1⟩ hM.b
  simp only [List.setIfInBounds_toArray, List.set_cons_zero, List.set_cons_succ]
  refine obs_step (Eq.trans (by simp only [List.getElem?_toArray, List.getElem?_cons_succ, List.getElem?_cons_zero]; exact rfl) rfl) rfl (fun w' hS hV K hK => ?_) ?_
  · simp only [List.mem_cons, List.not_mem_nil, or_false, forall_eq_or_imp, forall_eq, List.getD_cons_succ, List.getD_cons_zero, VIs, VSl, VAny] at hV
    obtain ⟨e0, e1, e2, e3, e4⟩ := hV
    obtain ⟨q0, q1⟩ := hS.1.two; have hcN : w'.cell? ⟨gN, 0, none⟩ = some (.int .i64 (nrmL P sq xs)) := (mkI_at (hN.below hS.2.2) (pw_pos n)).1; have hposI : 0 < pw n := pw_pos n
    go_simp
    exact hK.out _ _ _ rfl rfl rfl (Below.refl _ _)
  simp only [List.setIfInBounds_toArray, List.set_cons_zero, List.set_cons_succ]
  refine obs_step (Eq.trans (by simp only [List.getElem?_toArray, List.getElem?_cons_succ, List.getElem?_cons_zero]; exact rfl) rfl) rfl (fun w' hS hV K hK => ?_) ?_
  · simp only [List.mem_cons, List.not_mem_nil, or_false, forall_eq_or_imp, forall_eq, List.getD_cons_succ, List.getD_cons_zero, VIs, VSl, VAny] at hV
    obtain ⟨e0, e1, e2, e3, e4, e10⟩ := hV
    obtain ⟨q0, q1⟩ := hS.1.two; have hcN : w'.cell? ⟨gN, 0, none⟩ = some (.int .i64 (nrmL P sq xs)) := (mkI_at (hN.below hS.2.2) (pw_pos n)).1; have hposI : 0 < pw n := pw_pos n
    go_simp
    exact hK.out _ _ _ rfl rfl rfl (Below.refl _ _)
  simp only [List.setIfInBounds_toArray, List.set_cons_zero, List.set_cons_succ]
  refine obs_step (Eq.trans (by simp only [List.getElem?_toArray, List.getElem?_cons_succ, List.getElem?_cons_zero]; exact rfl) rfl) rfl (fun w' hS hV K hK => ?_) ?_
  · simp only [List.mem_cons, List.not_mem_nil, or_false, forall_eq_or_imp, forall_eq, List.getD_cons_succ, List.getD_cons_zero, VIs, VSl, VAny] at hV
    obtain ⟨e0, e1, e2, e3, e4, e10, e11⟩ := hV
    obtain ⟨q0, q1⟩ := hS.1.two; have hcN : w'.cell? ⟨gN, 0, none⟩ = some (.int .i64 (nrmL P sq xs)) := (mkI_at (hN.below hS.2.2) (pw_pos n)).1; have hposI : 0 < pw n := pw_pos n
    go_simp
    exact hK.out _ _ _ rfl rfl rfl (Below.refl _ _)
  simp only [List.setIfInBounds_toArray, List.set_cons_zero, List.set_cons_succ]
  refine obs_step (Eq.trans (by simp only [List.getElem?_toArray, List.getElem?_cons_succ, List.getElem?_cons_zero]; exact rfl) rfl) rfl (fun w' hS hV K hK => ?_) ?_
  · simp only [List.mem_cons, List.not_mem_nil, or_false, forall_eq_or_imp, forall_eq, List.getD_cons_succ, List.getD_cons_zero, VIs, VSl, VAny] at hV
    obtain ⟨e0, e1, e2, e3, e4, e6, e7, e8, ⟨A9, c9, e9, h9⟩, e10, e11, e12⟩ := hV
    obtain ⟨q0, q1⟩ := hS.1.two; have hcN : w'.cell? ⟨gN, 0, none⟩ = some (.int .i64 (nrmL P sq xs)) := (mkI_at (hN.below hS.2.2) (pw_pos n)).1; have hposI : 0 < pw n := pw_pos n
    go_simp
    refine (l02Scale_any P _ (pw n) _ (nrmL P sq xs) (bladeL n 0) _ hp hp2 HPW h9.rd (bladeL_nums hp n 0) (by have := (nrmL_small hp sq xs); omega) (by have := (nrmL_small hp sq xs); omega)).mono ?_
    rintro e w1 ⟨A2, c2, rfl, hM⟩
    exact hK.out _ _ _ rfl rfl ⟨_, _, rfl, hM.after hS.2.1⟩ hM.b
  simp only [List.setIfInBounds_toArray, List.set_cons_zero, List.set_cons_succ]
  refine obs_step (Eq.trans (by simp only [List.getElem?_toArray, List.getElem?_cons_succ, List.getElem?_cons_zero]; exact rfl) rfl) rfl (fun w' hS hV K hK => ?_) ?_
  · simp only [List.mem_cons, List.not_mem_nil, or_false, forall_eq_or_imp, forall_eq, List.getD_cons_succ, List.getD_cons_zero, VIs, VSl, VAny] at hV
    obtain ⟨e0, e1, e2, e3, e4, e5, e6, e7, e8, ⟨A9, c9, e9, h9⟩, e10, e11, e12, ⟨A13, c13, e13, h13⟩⟩ := hV
    obtain ⟨q0, q1⟩ := hS.1.two; have hcN : w'.cell? ⟨gN, 0, none⟩ = some (.int .i64 (nrmL P sq xs)) := (mkI_at (hN.below hS.2.2) (pw_pos n)).1; have hposI : 0 < pw n := pw_pos n
    go_simp
    refine (l01Same_b _ _ _ _ _ _ _ _ _ (by omega) (by omega) (hN.rd.below hS.2.2) h13.rd HO.out).mono ?_
    rintro e w1 ⟨rfl, j, rfl⟩
    exact hK.out _ _ _ rfl rfl rfl (below_drewN (Below.refl _ _) _)
  simp only [List.setIfInBounds_toArray, List.set_cons_zero, List.set_cons_succ]
  refine obs_step (Eq.trans (by simp only [List.getElem?_toArray, List.getElem?_cons_succ, List.getElem?_cons_zero]; exact rfl) rfl) rfl (fun w' hS hV K hK => ?_) ?_
  · simp only [List.mem_cons, List.not_mem_nil, or_false, forall_eq_or_imp, forall_eq, List.getD_cons_succ, List.getD_cons_zero, VIs, VSl, VAny] at hV
    obtain ⟨e0, e1, e2, e3, e4, e5, e6, e7, e8, ⟨A9, c9, e9, h9⟩, e10, e11, e12, ⟨A13, c13, e13, h13⟩, e14⟩ := hV
    obtain ⟨q0, q1⟩ := hS.1.two; have hcN : w'.cell? ⟨gN, 0, none⟩ = some (.int .i64 (nrmL P sq xs)) := (mkI_at (hN.below hS.2.2) (pw_pos n)).1; have hposI : 0 < pw n := pw_pos n
    go_simp
    exact hK.out _ _ _ rfl rfl rfl (Below.refl _ _)
  simp only [List.setIfInBounds_toArray, List.set_cons_zero, List.set_cons_succ]
  refine obs_step (Eq.trans (by simp only [List.getElem?_toArray, List.getElem?_cons_succ, List.getElem?_cons_zero]; exact rfl) rfl) rfl (fun w' hS hV K hK => ?_) ?_
  · simp only [List.mem_cons, List.not_mem_nil, or_false, forall_eq_or_imp, forall_eq, List.getD_cons_succ, List.getD_cons_zero, VIs, VSl, VAny] at hV
    obtain ⟨e0, e1, e2, e3, e4, e5, e6, e7, e8, ⟨A9, c9, e9, h9⟩, e10, e11, e12, ⟨A13, c13, e13, h13⟩, e14, e15⟩ := hV
    obtain ⟨q0, q1⟩ := hS.1.two; have hcN : w'.cell? ⟨gN, 0, none⟩ = some (.int .i64 (nrmL P sq xs)) := (mkI_at (hN.below hS.2.2) (pw_pos n)).1; have hposI : 0 < pw n := pw_pos n
    go_simp
    exact hK.out _ _ _ rfl rfl rfl (Below.refl _ _)
  simp only [List.setIfInBounds_toArray, List.set_cons_zero, List.set_cons_succ]
  refine obs_step (Eq.trans (by simp only [List.getElem?_toArray, List.getElem?_cons_succ, List.getElem?_cons_zero]; exact rfl) rfl) rfl (fun w' hS hV K hK => ?_) ?_
  · simp only [List.mem_cons, List.not_mem_nil, or_false, forall_eq_or_imp, forall_eq, List.getD_cons_succ, List.getD_cons_zero, VIs, VSl, VAny] at hV
    obtain ⟨e0, e1, e2, e3, e4, e5, e6, e7, e8, ⟨A9, c9, e9, h9⟩, e10, e11, e12, ⟨A13, c13, e13, h13⟩, e14, e15, e16⟩ := hV
    obtain ⟨q0, q1⟩ := hS.1.two; have hcN : w'.cell? ⟨gN, 0, none⟩ = some (.int .i64 (nrmL P sq xs)) := (mkI_at (hN.below hS.2.2) (pw_pos n)).1; have hposI : 0 < pw n := pw_pos n
    go_simp
    exact hK.out _ _ _ rfl rfl rfl (Below.refl _ _)
  simp only [List.setIfInBounds_toArray, List.set_cons_zero, List.set_cons_succ]
  refine obs_step (Eq.trans (by simp only [List.getElem?_toArray, List.getElem?_cons_succ, List.getElem?_cons_zero]; exact rfl) rfl) rfl (fun w' hS hV K hK => ?_) ?_
  · simp only [List.mem_cons, List.not_mem_nil, or_false, forall_eq_or_imp, forall_eq, List.getD_cons_succ, List.getD_cons_zero, VIs, VSl, VAny] at hV
    obtain ⟨e0, e1, e2, e3, e4, e5, e6, e7, e8, ⟨A9, c9, e9, h9⟩, e10, e11, e12, ⟨A13, c13, e13, h13⟩, e14, e15, e16, e17⟩ := hV
    obtain ⟨q0, q1⟩ := hS.1.two; have hcN : w'.cell? ⟨gN, 0, none⟩ = some (.int .i64 (nrmL P sq xs)) := (mkI_at (hN.below hS.2.2) (pw_pos n)).1; have hposI : 0 < pw n := pw_pos n
    go_simp
    exact hK.out _ _ _ rfl rfl rfl (Below.refl _ _)
  simp only [List.setIfInBounds_toArray, List.set_cons_zero, List.set_cons_succ]
  refine obs_step (Eq.trans (by simp only [List.getElem?_toArray, List.getElem?_cons_succ, List.getElem?_cons_zero]; exact rfl) rfl) rfl (fun w' hS hV K hK => ?_) ?_
  · simp only [List.mem_cons, List.not_mem_nil, or_false, forall_eq_or_imp, forall_eq, List.getD_cons_succ, List.getD_cons_zero, VIs, VSl, VAny] at hV
    obtain ⟨e0, e1, e2, e3, e4, e5, e6, e7, e8, ⟨A9, c9, e9, h9⟩, e10, e11, e12, ⟨A13, c13, e13, h13⟩, e14, e15, e16, e17⟩ := hV
    obtain ⟨q0, q1⟩ := hS.1.two; have hcN : w'.cell? ⟨gN, 0, none⟩ = some (.int .i64 (nrmL P sq xs)) := (mkI_at (hN.below hS.2.2) (pw_pos n)).1; have hposI : 0 < pw n := pw_pos n
    go_simp
    exact hK.out _ _ _ rfl rfl rfl (Below.refl _ _)
  simp only [List.setIfInBounds_toArray, List.set_cons_zero, List.set_cons_succ]
  refine obs_step (Eq.trans (by simp only [List.getElem?_toArray, List.getElem?_cons_succ, List.getElem?_cons_zero]; exact rfl) rfl) rfl (fun w' hS hV K hK => ?_) ?_
  · simp only [List.mem_cons, List.not_mem_nil, or_false, forall_eq_or_imp, forall_eq, List.getD_cons_succ, List.getD_cons_zero, VIs, VSl, VAny] at hV
    obtain ⟨e0, e1, e2, e3, e4, e5, e6, e7, e8, ⟨A9, c9, e9, h9⟩, e10, e11, e12, ⟨A13, c13, e13, h13⟩, e14, e15, e16, e17, e18, e19⟩ := hV
    obtain ⟨q0, q1⟩ := hS.1.two; have hcN : w'.cell? ⟨gN, 0, none⟩ = some (.int .i64 (nrmL P sq xs)) := (mkI_at (hN.below hS.2.2) (pw_pos n)).1; have hposI : 0 < pw n := pw_pos n
    go_simp
    refine (l07Even_any P A n c _ _ xs _ hn (hx.below hS.2.1)).mono ?_
    rintro e w1 ⟨rfl, hb⟩
    exact hK.out _ _ _ rfl rfl rfl hb
  simp only [List.setIfInBounds_toArray, List.set_cons_zero, List.set_cons_succ]
  refine obs_step (Eq.trans (by simp only [List.getElem?_toArray, List.getElem?_cons_succ, List.getElem?_cons_zero]; exact rfl) rfl) rfl (fun w' hS hV K hK => ?_) ?_
  · simp only [List.mem_cons, List.not_mem_nil, or_false, forall_eq_or_imp, forall_eq, List.getD_cons_succ, List.getD_cons_zero, VIs, VSl, VAny] at hV
    obtain ⟨e0, e1, e2, e3, e4, e5, e6, e7, e8, ⟨A9, c9, e9, h9⟩, e10, e11, e12, ⟨A13, c13, e13, h13⟩, e14, e15, e16, e17, e18, e19, e20⟩ := hV
    obtain ⟨q0, q1⟩ := hS.1.two; have hcN : w'.cell? ⟨gN, 0, none⟩ = some (.int .i64 (nrmL P sq xs)) := (mkI_at (hN.below hS.2.2) (pw_pos n)).1; have hposI : 0 < pw n := pw_pos n
    go_simp
    exact hK.out _ _ _ rfl rfl rfl (Below.refl _ _)
  simp only [List.setIfInBounds_toArray, List.set_cons_zero, List.set_cons_succ]
  refine obs_step (Eq.trans (by simp only [List.getElem?_toArray, List.getElem?_cons_succ, List.getElem?_cons_zero]; exact rfl) rfl) rfl (fun w' hS hV K hK => ?_) ?_
  · simp only [List.mem_cons, List.not_mem_nil, or_false, forall_eq_or_imp, forall_eq, List.getD_cons_succ, List.getD_cons_zero, VIs, VSl, VAny] at hV
    obtain ⟨e0, e1, e2, e3, e4, e5, e6, e7, e8, ⟨A9, c9, e9, h9⟩, e10, e11, e12, ⟨A13, c13, e13, h13⟩, e14, e15, e16, e17, e18, e19, e20, e21⟩ := hV
    obtain ⟨q0, q1⟩ := hS.1.two; have hcN : w'.cell? ⟨gN, 0, none⟩ = some (.int .i64 (nrmL P sq xs)) := (mkI_at (hN.below hS.2.2) (pw_pos n)).1; have hposI : 0 < pw n := pw_pos n
    go_simp
    exact hK.out _ _ _ rfl rfl rfl (Below.refl _ _)
  simp only [List.setIfInBounds_toArray, List.set_cons_zero, List.set_cons_succ]
  refine fun w' hS hV => ?_
  have hV := fun i hi => hV i (List.mem_range.1 hi)
  simp only [List.range, List.range.loop, List.mem_cons, List.not_mem_nil, or_false, forall_eq_or_imp, forall_eq, List.getD_cons_succ, List.getD_cons_zero, VIs, VSl, VAny] at hV
  obtain ⟨e0, e1, e2, e3, e4, e5, e6, e7, e8, ⟨A9, c9, e9, h9⟩, e10, e11, e12, ⟨A13, c13, e13, h13⟩, e14, e15, e16, e17, e18, e19, e20, e21, e22⟩ := hV
  simp only [e0, e1, e2, e3, e4, e5, e6, e7, e8, e9, e10, e11, e12, e13, e14, e15, e16, e17, e18, e19, e20, e21, e22]
  clear e0 e1 e2 e3 e4 e5 e6 e7 e8 e9 e10 e11 e12 e13 e14 e15 e16 e17 e18 e19 e20 e21 e22
  refine wpAny_done (by kernel_rfl) ?_ _
  go_wp2
  go_ret
  exact ⟨ret_bool (by unfold versB; rw [H1.out, H2.out, H3.out]; rfl), hS.2.1⟩
set_option maxHeartbeats 3200000 in
set_option maxRecDepth 8000 in
theorem l07Is_D (P : Int) (A : Option Addr) (n c : Nat) (sq : List Int) (X : Option Addr) (cx : Nat) (xs : List Int) (w : World) (hp : 2 ≤ P) (hp2 : P ≤ 13) (hn : n ≤ 6) (ha : Rd w A n (ints sq)) (hs : NumsL P sq) (hx : Rd w X (pw n) (ints xs)) (hxs : NumsL P xs) (hcx : pw n ≤ cx) (_HP : isP P = true) (h1 : ¬ nrmL P sq xs = 0) (h2 : onlyL (mulL P sq xs (revL P xs)) 0 = true) (h3 : mixB (gradesL xs) = false) :
    Calls Tryz.prog 47 #[.agg #[.int .i64 P, .slice A n c], .slice X (pw n) cx] w fun e w' => e = .returned (.bool (versB P sq n xs)) ∧ Below w.heap.size w w' := by
  have hB0 : Below w.heap.size w (w.alloc (.cells #[.int .i64 P, .slice A n c] 29)) := (Below.refl _ _).alloc (Nat.le_refl _) _
  have k0 : Blk (w.alloc (.cells #[.int .i64 P, .slice A n c] 29)) w.heap.size 29 #[.int .i64 P, .slice A n c] := Blk.new _ _ _
  have HPW : pw n ≤ 65536 := Nat.le_trans (pw_le (show n ≤ 10 by omega)) (by decide)
  have HPW64 : pw n ≤ 64 := pw_le hn
  have HNN := mulL_nums (show 0 < P by omega) sq xs (revL P xs)
  have HSC : Hid (decide (mulL P sq xs (revL P xs) = scaleL P (bladeL n 0) (nrmL P sq xs)) = onlyL (mulL P sq xs (revL P xs)) 0) := Lib.hid (onlyL_scalar hp hn (by rw [mulL_len, hx.lenI]) HNN)
  have HEV := Lib.hid (evnV_neg (gs := gradesL xs) fun g hg => (gradesL_range xs g hg).1)
  have b1 : (nrmL P sq xs == 0) = false := by simp [h1]
  have H1 := Lib.hid b1
  have H2 := Lib.hid h2
  have H3 := Lib.hid h3
  have HO : Hid (decide (mulL P sq xs (revL P xs) = scaleL P (bladeL n 0) (nrmL P sq xs)) = true) := Lib.hid (HSC.out.trans h2)
  have hev : decide (evnV (gradesL xs) < 0) = false := HEV.out.trans h3
  clear h1 h2 h3
  go_enter Tryz.func47, Tryz.ntmps47
  go_wp2_with fail
  refine (l04Reverse_any P A n c X (pw n) cx xs _ hp hp2 HPW64 (hx.below hB0) hxs).mono ?_
  rintro e w1 ⟨Bk, cB, rfl, hBk⟩
  have hB1 := hB0.trans (hBk.b.mono (by simp))
  have k1 := k0.below hBk.b k0.lt
  obtain ⟨q0, q1⟩ := k1.two
  clear k0 hB0
  go_wp2_with fail
  refine (l04Times_any P A n c sq X cx xs Bk cB _ _ hp hp2 hn (ha.below hB1) hs (hx.below hB1) hxs hBk.rd (sgnL_nums (by omega) revT hxs)).mono ?_
  rintro e w2 ⟨N, cN, rfl, hN⟩
  have hB2 := hB1.trans (hN.b.mono hB1.size)
  have k2 := k1.below hN.b k1.lt
  have hBk2 := hBk.below hN.b
  rcases hN.2.form with ⟨_, hz⟩ | ⟨gN, hgN, _, _⟩
  · exact absurd hz (by have := pw_pos n; omega)
  subst hgN
  clear q0 q1 k1 hB1 hBk
  go_wp2
  refine wp_obs 23 [[], [0], [0, 1], [0, 1, 2], [0, 1, 2, 3], [0, 1, 2, 3, 4], [0, 1, 2, 3, 4], [0, 1, 2, 3, 4, 6], [0, 1, 2, 3, 4], [0, 1, 2, 3, 4, 8], [0, 1, 2, 3, 4], [0, 1, 2, 3, 4, 10], [0, 1, 2, 3, 4, 10, 11], [0, 1, 2, 3, 4, 6, 7, 8, 9, 10, 11, 12], [0, 1, 2, 3, 4, 5, 6, 7, 8, 9, 10, 11, 12, 13], [0, 1, 2, 3, 4, 5, 6, 7, 8, 9, 10, 11, 12, 13, 14], [0, 1, 2, 3, 4, 5, 6, 7, 8, 9, 10, 11, 12, 13, 14, 15], [0, 1, 2, 3, 4, 5, 6, 7, 8, 9, 10, 11, 12, 13, 14, 15, 16], [0, 1, 2, 3, 4, 5, 6, 7, 8, 9, 10, 11, 12, 13, 14, 15, 16, 17], [0, 1, 2, 3, 4, 5, 6, 7, 8, 9, 10, 11, 12, 13, 14, 15, 16, 17], [0, 1, 2, 3, 4, 5, 6, 7, 8, 9, 10, 11, 12, 13, 14, 15, 16, 17, 18, 19], [0, 1, 2, 3, 4, 5, 6, 7, 8, 9, 10, 11, 12, 13, 14, 15, 16, 17, 18, 19, 20], [0, 1, 2, 3, 4, 5, 6, 7, 8, 9, 10, 11, 12, 13, 14, 15, 16, 17, 18, 19, 20, 21]] [VIs (.slice (some ⟨gN, 0, none⟩) (pw n) cN), VIs (.pointer (some ⟨gN, 0, none⟩)), VIs (.int .i64 (nrmL P sq xs)), VIs (.bool false), VIs (.bool false), VIs (.slice (some ⟨gN, 0, none⟩) (pw n) cN), VIs (.pointer (some ⟨w.heap.size, 0, none⟩)), VIs (.int .i64 P), VIs (.agg #[.int .i64 P, .slice A n c]), VSl w (pw n) (bladeL n 0), VIs (.slice (some ⟨gN, 0, none⟩) (pw n) cN), VIs (.pointer (some ⟨gN, 0, none⟩)), VIs (.int .i64 (nrmL P sq xs)), VSl w (pw n) (scaleL P (bladeL n 0) (nrmL P sq xs)), VIs (.bool true), VIs (.bool false), VIs (.bool false), VIs (.bool false), VIs (.agg #[.int .i64 P, .slice A n c]), VIs (.slice X (pw n) cx), VIs (.int .i64 (evnV (gradesL xs))), VIs (.bool false), VIs (.bool false)] (fun w' => Blk w' w.heap.size 29 #[.int .i64 P, .slice A n c] ∧ Below w.heap.size w w' ∧ Below w2.heap.size w2 w') (by kernel_rfl) (by kernel_rfl) (fun _ _ h hb => ⟨h.1.below hb h.1.lt, h.2.1.trans (hb.mono h.2.1.size), h.2.2.trans (hb.mono h.2.2.size)⟩) (⟨k2.drew, hB2.drew, (Below.refl _ _).drew⟩) (fun x => ?_)
  refine obs_step (Eq.trans (by simp only [List.getElem?_toArray, List.getElem?_cons_zero]; exact rfl) rfl) rfl (fun w' hS hV K hK => ?_) ?_
  · obtain ⟨q0, q1⟩ := hS.1.two; have hcN : w'.cell? ⟨gN, 0, none⟩ = some (.int .i64 (nrmL P sq xs)) := (mkI_at (hN.below hS.2.2) (pw_pos n)).1; have hposI : 0 < pw n := pw_pos n
    go_simp
    exact hK.out _ _ _ rfl rfl rfl (Below.refl _ _)
  simp only [List.setIfInBounds_toArray, List.set_cons_zero, List.set_cons_succ]
  refine obs_step (Eq.trans (by simp only [List.getElem?_toArray, List.getElem?_cons_succ, List.getElem?_cons_zero]; exact rfl) rfl) rfl (fun w' hS hV K hK => ?_) ?_
  · simp only [List.mem_cons, List.not_mem_nil, or_false, forall_eq, List.getD_cons_succ, List.getD_cons_zero, VIs, VSl, VAny] at hV
    obtain e0 := hV
    obtain ⟨q0, q1⟩ := hS.1.two; have hcN : w'.cell? ⟨gN, 0, none⟩ = some (.int .i64 (nrmL P sq xs)) := (mkI_at (hN.below hS.2.2) (pw_pos n)).1; have hposI : 0 < pw n := pw_pos n
    go_simp
    exact hK.out _ _ _ rfl rfl rfl (Below.refl _ _)
  simp only [List.setIfInBounds_toArray, List.set_cons_zero, List.set_cons_succ]
  refine obs_step (Eq.trans (by simp only [List.getElem?_toArray, List.getElem?_cons_succ, List.getElem?_cons_zero]; exact rfl) rfl) rfl (fun w' hS hV K hK => ?_) ?_
  · simp only [List.mem_cons, List.not_mem_nil, or_false, forall_eq_or_imp, forall_eq, List.getD_cons_succ, List.getD_cons_zero, VIs, VSl, VAny] at hV
    obtain ⟨e0, e1⟩ := hV
    obtain ⟨q0, q1⟩ := hS.1.two; have hcN : w'.cell? ⟨gN, 0, none⟩ = some (.int .i64 (nrmL P sq xs)) := (mkI_at (hN.below hS.2.2) (pw_pos n)).1; have hposI : 0 < pw n := pw_pos n
    go_simp
    exact hK.out _ _ _ rfl rfl rfl (Below.refl _ _)
  simp only [List.setIfInBounds_toArray, List.set_cons_zero, List.set_cons_succ]
  refine obs_step (Eq.trans (by simp only [List.getElem?_toArray, List.getElem?_cons_succ, List.getElem?_cons_zero]; exact rfl) rfl) rfl (fun w' hS hV K hK => ?_) ?_
  · simp only [List.mem_cons, List.not_mem_nil, or_false, forall_eq_or_imp, forall_eq, List.getD_cons_succ, List.getD_cons_zero, VIs, VSl, VAny] at hV
    obtain ⟨e0, e1, e2⟩ := hV
    obtain ⟨q0, q1⟩ := hS.1.two; have hcN : w'.cell? ⟨gN, 0, none⟩ = some (.int .i64 (nrmL P sq xs)) := (mkI_at (hN.below hS.2.2) (pw_pos n)).1; have hposI : 0 < pw n := pw_pos n
    go_simp
    exact hK.out _ _ _ rfl rfl rfl (Below.refl _ _)
  simp only [List.setIfInBounds_toArray, List.set_cons_zero, List.set_cons_succ]
  refine obs_step (Eq.trans (by simp only [List.getElem?_toArray, List.getElem?_cons_succ, List.getElem?_cons_zero]; exact rfl) rfl) rfl (fun w' hS hV K hK => ?_) ?_
  · simp only [List.mem_cons, List.not_mem_nil, or_false, forall_eq_or_imp, forall_eq, List.getD_cons_succ, List.getD_cons_zero, VIs, VSl, VAny] at hV
    obtain ⟨e0, e1, e2, e3⟩ := hV
    obtain ⟨q0, q1⟩ := hS.1.two; have hcN : w'.cell? ⟨gN, 0, none⟩ = some (.int .i64 (nrmL P sq xs)) := (mkI_at (hN.below hS.2.2) (pw_pos n)).1; have hposI : 0 < pw n := pw_pos n
    go_simp
    exact hK.out _ _ _ rfl rfl rfl (Below.refl _ _)
  simp only [List.setIfInBounds_toArray, List.set_cons_zero, List.set_cons_succ]
  refine obs_step (Eq.trans (by simp only [List.getElem?_toArray, List.getElem?_cons_succ, List.getElem?_cons_zero]; exact rfl) rfl) rfl (fun w' hS hV K hK => ?_) ?_
  · simp only [List.mem_cons, List.not_mem_nil, or_false, forall_eq_or_imp, forall_eq, List.getD_cons_succ, List.getD_cons_zero, VIs, VSl, VAny] at hV
    obtain ⟨e0, e1, e2, e3, e4⟩ := hV
    obtain ⟨q0, q1⟩ := hS.1.two; have hcN : w'.cell? ⟨gN, 0, none⟩ = some (.int .i64 (nrmL P sq xs)) := (mkI_at (hN.below hS.2.2) (pw_pos n)).1; have hposI : 0 < pw n := pw_pos n
    go_simp
    exact hK.out _ _ _ rfl rfl rfl (Below.refl _ _)
  simp only [List.setIfInBounds_toArray, List.set_cons_zero, List.set_cons_succ]
  refine obs_step (Eq.trans (by simp only [List.getElem?_toArray, List.getElem?_cons_succ, List.getElem?_cons_zero]; exact rfl) rfl) rfl (fun w' hS hV K hK => ?_) ?_
  · simp only [List.mem_cons, List.not_mem_nil, or_false, forall_eq_or_imp, forall_eq, List.getD_cons_succ, List.getD_cons_zero, VIs, VSl, VAny] at hV
    obtain ⟨e0, e1, e2, e3, e4⟩ := hV
    obtain ⟨q0, q1⟩ := hS.1.two; have hcN : w'.cell? ⟨gN, 0, none⟩ = some (.int .i64 (nrmL P sq xs)) := (mkI_at (hN.below hS.2.2) (pw_pos n)).1; have hposI : 0 < pw n := pw_pos n
    go_simp
    exact hK.out _ _ _ rfl rfl rfl (Below.refl _ _)
  simp only [List.setIfInBounds_toArray, List.set_cons_zero, List.set_cons_succ]
  refine obs_step (Eq.trans (by simp only [List.getElem?_toArray, List.getElem?_cons_succ, List.getElem?_cons_zero]; exact rfl) rfl) rfl (fun w' hS hV K hK => ?_) ?_
  · simp only [List.mem_cons, List.not_mem_nil, or_false, forall_eq_or_imp, forall_eq, List.getD_cons_succ, List.getD_cons_zero, VIs, VSl, VAny] at hV
    obtain ⟨e0, e1, e2, e3, e4, e6⟩ := hV
    obtain ⟨q0, q1⟩ := hS.1.two; have hcN : w'.cell? ⟨gN, 0, none⟩ = some (.int .i64 (nrmL P sq xs)) := (mkI_at (hN.below hS.2.2) (pw_pos n)).1; have hposI : 0 < pw n := pw_pos n
    go_simp
    exact hK.out _ _ _ rfl rfl rfl (Below.refl _ _)
  simp only [List.setIfInBounds_toArray, List.set_cons_zero, List.set_cons_succ]
  refine obs_step (Eq.trans (by simp only [List.getElem?_toArray, List.getElem?_cons_succ, List.getElem?_cons_zero]; exact rfl) rfl) rfl (fun w' hS hV K hK => ?_) ?_
  · simp only [List.mem_cons, List.not_mem_nil, or_false, forall_eq_or_imp, forall_eq, List.getD_cons_succ, List.getD_cons_zero, VIs, VSl, VAny] at hV
    obtain ⟨e0, e1, e2, e3, e4⟩ := hV
    obtain ⟨q0, q1⟩ := hS.1.two; have hcN : w'.cell? ⟨gN, 0, none⟩ = some (.int .i64 (nrmL P sq xs)) := (mkI_at (hN.below hS.2.2) (pw_pos n)).1; have hposI : 0 < pw n := pw_pos n
    go_simp
    exact hK.out _ _ _ rfl rfl rfl (Below.refl _ _)
  simp only [List.setIfInBounds_toArray, List.set_cons_zero, List.set_cons_succ]
  refine obs_step (Eq.trans (by simp only [List.getElem?_toArray, List.getElem?_cons_succ, List.getElem?_cons_zero]; exact rfl) rfl) rfl (fun w' hS hV K hK => ?_) ?_
  · simp only [List.mem_cons, List.not_mem_nil, or_false, forall_eq_or_imp, forall_eq, List.getD_cons_succ, List.getD_cons_zero, VIs, VSl, VAny] at hV
    obtain ⟨e0, e1, e2, e3, e4, e8⟩ := hV
    obtain ⟨q0, q1⟩ := hS.1.two; have hcN : w'.cell? ⟨gN, 0, none⟩ = some (.int .i64 (nrmL P sq xs)) := (mkI_at (hN.below hS.2.2) (pw_pos n)).1; have hposI : 0 < pw n := pw_pos n
    go_simp
    refine (l04One_any P A n c _ (by omega)).mono ?_
    rintro e w1 ⟨A2, c2, rfl, hM⟩
    exact hK.out _ _ _ rfl rfl ⟨_, _, rfl, hM.after hS.2.1⟩ hM.b
  simp only [List.setIfInBounds_toArray, List.set_cons_zero, List.set_cons_succ]
  refine obs_step (Eq.trans (by simp only [List.getElem?_toArray, List.getElem?_cons_succ, List.getElem?_cons_zero]; exact rfl) rfl) rfl (fun w' hS hV K hK => ?_) ?_
  · simp only [List.mem_cons, List.not_mem_nil, or_false, forall_eq_or_imp, forall_eq, List.getD_cons_succ, List.getD_cons_zero, VIs, VSl, VAny] at hV
    obtain ⟨e0, e1, e2, e3, e4⟩ := hV
    obtain ⟨q0, q1⟩ := hS.1.two; have hcN : w'.cell? ⟨gN, 0, none⟩ = some (.int .i64 (nrmL P sq xs)) := (mkI_at (hN.below hS.2.2) (pw_pos n)).1; have hposI : 0 < pw n := pw_pos n
    go_simp
    exact hK.out _ _ _ rfl rfl rfl (Below.refl _ _)
  simp only [List.setIfInBounds_toArray, List.set_cons_zero, List.set_cons_succ]
  refine obs_step (Eq.trans (by simp only [List.getElem?_toArray, List.getElem?_cons_succ, List.getElem?_cons_zero]; exact rfl) rfl) rfl (fun w' hS hV K hK => ?_) ?_
  · simp only [List.mem_cons, List.not_mem_nil, or_false, forall_eq_or_imp, forall_eq, List.getD_cons_succ, List.getD_cons_zero, VIs, VSl, VAny] at hV
    obtain ⟨e0, e1, e2, e3, e4, e10⟩ := hV
    obtain ⟨q0, q1⟩ := hS.1.two; have hcN : w'.cell? ⟨gN, 0, none⟩ = some (.int .i64 (nrmL P sq xs)) := (mkI_at (hN.below hS.2.2) (pw_pos n)).1; have hposI : 0 < pw n := pw_pos n
    go_simp
    exact hK.out _ _ _ rfl rfl rfl (Below.refl _ _)
  simp only [List.setIfInBounds_toArray, List.set_cons_zero, List.set_cons_succ]
  refine obs_step (Eq.trans (by simp only [List.getElem?_toArray, List.getElem?_cons_succ, List.getElem?_cons_zero]; exact rfl) rfl) rfl (fun w' hS hV K hK => ?_) ?_
  · simp only [List.mem_cons, List.not_mem_nil, or_false, forall_eq_or_imp, forall_eq, List.getD_cons_succ, List.getD_cons_zero, VIs, VSl, VAny] at hV
    obtain ⟨e0, e1, e2, e3, e4, e10, e11⟩ := hV
    obtain ⟨q0, q1⟩ := hS.1.two; have hcN : w'.cell? ⟨gN, 0, none⟩ = some (.int .i64 (nrmL P sq xs)) := (mkI_at (hN.below hS.2.2) (pw_pos n)).1; have hposI : 0 < pw n := pw_pos n
    go_simp
    exact hK.out _ _ _ rfl rfl rfl (Below.refl _ _)
  simp only [List.setIfInBounds_toArray, List.set_cons_zero, List.set_cons_succ]
  refine obs_step (Eq.trans (by simp only [List.getElem?_toArray, List.getElem?_cons_succ, List.getElem?_cons_zero]; exact rfl) rfl) rfl (fun w' hS hV K hK => ?_) ?_
  · simp only [List.mem_cons, List.not_mem_nil, or_false, forall_eq_or_imp, forall_eq, List.getD_cons_succ, List.getD_cons_zero, VIs, VSl, VAny] at hV
    obtain ⟨e0, e1, e2, e3, e4, e6, e7, e8, ⟨A9, c9, e9, h9⟩, e10, e11, e12⟩ := hV
    obtain ⟨q0, q1⟩ := hS.1.two; have hcN : w'.cell? ⟨gN, 0, none⟩ = some (.int .i64 (nrmL P sq xs)) := (mkI_at (hN.below hS.2.2) (pw_pos n)).1; have hposI : 0 < pw n := pw_pos n
    go_simp
    refine (l02Scale_any P _ (pw n) _ (nrmL P sq xs) (bladeL n 0) _ hp hp2 HPW h9.rd (bladeL_nums hp n 0) (by have := (nrmL_small hp sq xs); omega) (by have := (nrmL_small hp sq xs); omega)).mono ?_
    rintro e w1 ⟨A2, c2, rfl, hM⟩
    exact hK.out _ _ _ rfl rfl ⟨_, _, rfl, hM.after hS.2.1⟩ hM.b
  simp only [List.setIfInBounds_toArray, List.set_cons_zero, List.set_cons_succ]
  refine obs_step (Eq.trans (by simp only [List.getElem?_toArray, List.getElem?_cons_succ, List.getElem?_cons_zero]; exact rfl) rfl) rfl (fun w' hS hV K hK => ?_) ?_
  · simp only [List.mem_cons, List.not_mem_nil, or_false, forall_eq_or_imp, forall_eq, List.getD_cons_succ, List.getD_cons_zero, VIs, VSl, VAny] at hV
    obtain ⟨e0, e1, e2, e3, e4, e5, e6, e7, e8, ⟨A9, c9, e9, h9⟩, e10, e11, e12, ⟨A13, c13, e13, h13⟩⟩ := hV
    obtain ⟨q0, q1⟩ := hS.1.two; have hcN : w'.cell? ⟨gN, 0, none⟩ = some (.int .i64 (nrmL P sq xs)) := (mkI_at (hN.below hS.2.2) (pw_pos n)).1; have hposI : 0 < pw n := pw_pos n
    go_simp
    refine (l01Same_b _ _ _ _ _ _ _ _ _ (by omega) (by omega) (hN.rd.below hS.2.2) h13.rd HO.out).mono ?_
    rintro e w1 ⟨rfl, j, rfl⟩
    exact hK.out _ _ _ rfl rfl rfl (below_drewN (Below.refl _ _) _)
  simp only [List.setIfInBounds_toArray, List.set_cons_zero, List.set_cons_succ]
  refine obs_step (Eq.trans (by simp only [List.getElem?_toArray, List.getElem?_cons_succ, List.getElem?_cons_zero]; exact rfl) rfl) rfl (fun w' hS hV K hK => ?_) ?_
  · simp only [List.mem_cons, List.not_mem_nil, or_false, forall_eq_or_imp, forall_eq, List.getD_cons_succ, List.getD_cons_zero, VIs, VSl, VAny] at hV
    obtain ⟨e0, e1, e2, e3, e4, e5, e6, e7, e8, ⟨A9, c9, e9, h9⟩, e10, e11, e12, ⟨A13, c13, e13, h13⟩, e14⟩ := hV
    obtain ⟨q0, q1⟩ := hS.1.two; have hcN : w'.cell? ⟨gN, 0, none⟩ = some (.int .i64 (nrmL P sq xs)) := (mkI_at (hN.below hS.2.2) (pw_pos n)).1; have hposI : 0 < pw n := pw_pos n
    go_simp
    exact hK.out _ _ _ rfl rfl rfl (Below.refl _ _)
  simp only [List.setIfInBounds_toArray, List.set_cons_zero, List.set_cons_succ]
  refine obs_step (Eq.trans (by simp only [List.getElem?_toArray, List.getElem?_cons_succ, List.getElem?_cons_zero]; exact rfl) rfl) rfl (fun w' hS hV K hK => ?_) ?_
  · simp only [List.mem_cons, List.not_mem_nil, or_false, forall_eq_or_imp, forall_eq, List.getD_cons_succ, List.getD_cons_zero, VIs, VSl, VAny] at hV
    obtain ⟨e0, e1, e2, e3, e4, e5, e6, e7, e8, ⟨A9, c9, e9, h9⟩, e10, e11, e12, ⟨A13, c13, e13, h13⟩, e14, e15⟩ := hV
    obtain ⟨q0, q1⟩ := hS.1.two; have hcN : w'.cell? ⟨gN, 0, none⟩ = some (.int .i64 (nrmL P sq xs)) := (mkI_at (hN.below hS.2.2) (pw_pos n)).1; have hposI : 0 < pw n := pw_pos n
    go_simp
    exact hK.out _ _ _ rfl rfl rfl (Below.refl _ _)
  simp only [List.setIfInBounds_toArray, List.set_cons_zero, List.set_cons_succ]
  refine obs_step (Eq.trans (by simp only [List.getElem?_toArray, List.getElem?_cons_succ, List.getElem?_cons_zero]; exact rfl) rfl) rfl (fun w' hS hV K hK => ?_) ?_
  · simp only [List.mem_cons, List.not_mem_nil, or_false, forall_eq_or_imp, forall_eq, List.getD_cons_succ, List.getD_cons_zero, VIs, VSl, VAny] at hV
    obtain ⟨e0, e1, e2, e3, e4, e5, e6, e7, e8, ⟨A9, c9, e9, h9⟩, e10, e11, e12, ⟨A13, c13, e13, h13⟩, e14, e15, e16⟩ := hV
    obtain ⟨q0, q1⟩ := hS.1.two; have hcN : w'.cell? ⟨gN, 0, none⟩ = some (.int .i64 (nrmL P sq xs)) := (mkI_at (hN.below hS.2.2) (pw_pos n)).1; have hposI : 0 < pw n := pw_pos n
    go_simp
    exact hK.out _ _ _ rfl rfl rfl (Below.refl _ _)
  simp only [List.setIfInBounds_toArray, List.set_cons_zero, List.set_cons_succ]
  refine obs_step (Eq.trans (by simp only [List.getElem?_toArray, List.getElem?_cons_succ, List.getElem?_cons_zero]; exact rfl) rfl) rfl (fun w' hS hV K hK => ?_) ?_
  · simp only [List.mem_cons, List.not_mem_nil, or_false, forall_eq_or_imp, forall_eq, List.getD_cons_succ, List.getD_cons_zero, VIs, VSl, VAny] at hV
    obtain ⟨e0, e1, e2, e3, e4, e5, e6, e7, e8, ⟨A9, c9, e9, h9⟩, e10, e11, e12, ⟨A13, c13, e13, h13⟩, e14, e15, e16, e17⟩ := hV
    obtain ⟨q0, q1⟩ := hS.1.two; have hcN : w'.cell? ⟨gN, 0, none⟩ = some (.int .i64 (nrmL P sq xs)) := (mkI_at (hN.below hS.2.2) (pw_pos n)).1; have hposI : 0 < pw n := pw_pos n
    go_simp
    exact hK.out _ _ _ rfl rfl rfl (Below.refl _ _)
  simp only [List.setIfInBounds_toArray, List.set_cons_zero, List.set_cons_succ]
  refine obs_step (Eq.trans (by simp only [List.getElem?_toArray, List.getElem?_cons_succ, List.getElem?_cons_zero]; exact rfl) rfl) rfl (fun w' hS hV K hK => ?_) ?_
  · simp only [List.mem_cons, List.not_mem_nil, or_false, forall_eq_or_imp, forall_eq, List.getD_cons_succ, List.getD_cons_zero, VIs, VSl, VAny] at hV
    obtain ⟨e0, e1, e2, e3, e4, e5, e6, e7, e8, ⟨A9, c9, e9, h9⟩, e10, e11, e12, ⟨A13, c13, e13, h13⟩, e14, e15, e16, e17⟩ := hV
    obtain ⟨q0, q1⟩ := hS.1.two; have hcN : w'.cell? ⟨gN, 0, none⟩ = some (.int .i64 (nrmL P sq xs)) := (mkI_at (hN.below hS.2.2) (pw_pos n)).1; have hposI : 0 < pw n := pw_pos n
    go_simp
    exact hK.out _ _ _ rfl rfl rfl (Below.refl _ _)
  simp only [List.setIfInBounds_toArray, List.set_cons_zero, List.set_cons_succ]
  refine obs_step (Eq.trans (by simp only [List.getElem?_toArray, List.getElem?_cons_succ, List.getElem?_cons_zero]; exact rfl) rfl) rfl (fun w' hS hV K hK => ?_) ?_
  · simp only [List.mem_cons, List.not_mem_nil, or_false, forall_eq_or_imp, forall_eq, List.getD_cons_succ, List.getD_cons_zero, VIs, VSl, VAny] at hV
    obtain ⟨e0, e1, e2, e3, e4, e5, e6, e7, e8, ⟨A9, c9, e9, h9⟩, e10, e11, e12, ⟨A13, c13, e13, h13⟩, e14, e15, e16, e17, e18, e19⟩ := hV
    obtain ⟨q0, q1⟩ := hS.1.two; have hcN : w'.cell? ⟨gN, 0, none⟩ = some (.int .i64 (nrmL P sq xs)) := (mkI_at (hN.below hS.2.2) (pw_pos n)).1; have hposI : 0 < pw n := pw_pos n
    go_simp
    refine (l07Even_any P A n c _ _ xs _ hn (hx.below hS.2.1)).mono ?_
    rintro e w1 ⟨rfl, hb⟩
    exact hK.out _ _ _ rfl rfl rfl hb
  simp only [List.setIfInBounds_toArray, List.set_cons_zero, List.set_cons_succ]
  refine obs_step (Eq.trans (by simp only [List.getElem?_toArray, List.getElem?_cons_succ, List.getElem?_cons_zero]; exact rfl) rfl) rfl (fun w' hS hV K hK => ?_) ?_
  · simp only [List.mem_cons, List.not_mem_nil, or_false, forall_eq_or_imp, forall_eq, List.getD_cons_succ, List.getD_cons_zero, VIs, VSl, VAny] at hV
    obtain ⟨e0, e1, e2, e3, e4, e5, e6, e7, e8, ⟨A9, c9, e9, h9⟩, e10, e11, e12, ⟨A13, c13, e13, h13⟩, e14, e15, e16, e17, e18, e19, e20⟩ := hV
    obtain ⟨q0, q1⟩ := hS.1.two; have hcN : w'.cell? ⟨gN, 0, none⟩ = some (.int .i64 (nrmL P sq xs)) := (mkI_at (hN.below hS.2.2) (pw_pos n)).1; have hposI : 0 < pw n := pw_pos n
    go_simp
    exact hK.out _ _ _ rfl rfl rfl (Below.refl _ _)
  simp only [List.setIfInBounds_toArray, List.set_cons_zero, List.set_cons_succ]
  refine obs_step (Eq.trans (by simp only [List.getElem?_toArray, List.getElem?_cons_succ, List.getElem?_cons_zero]; exact rfl) rfl) rfl (fun w' hS hV K hK => ?_) ?_
  · simp only [List.mem_cons, List.not_mem_nil, or_false, forall_eq_or_imp, forall_eq, List.getD_cons_succ, List.getD_cons_zero, VIs, VSl, VAny] at hV
    obtain ⟨e0, e1, e2, e3, e4, e5, e6, e7, e8, ⟨A9, c9, e9, h9⟩, e10, e11, e12, ⟨A13, c13, e13, h13⟩, e14, e15, e16, e17, e18, e19, e20, e21⟩ := hV
    obtain ⟨q0, q1⟩ := hS.1.two; have hcN : w'.cell? ⟨gN, 0, none⟩ = some (.int .i64 (nrmL P sq xs)) := (mkI_at (hN.below hS.2.2) (pw_pos n)).1; have hposI : 0 < pw n := pw_pos n
    go_simp
    exact hK.out _ _ _ rfl rfl rfl (Below.refl _ _)
  simp only [List.setIfInBounds_toArray, List.set_cons_zero, List.set_cons_succ]
  refine fun w' hS hV => ?_
  have hV := fun i hi => hV i (List.mem_range.1 hi)
  simp only [List.range, List.range.loop, List.mem_cons, List.not_mem_nil, or_false, forall_eq_or_imp, forall_eq, List.getD_cons_succ, List.getD_cons_zero, VIs, VSl, VAny] at hV
  obtain ⟨e0, e1, e2, e3, e4, e5, e6, e7, e8, ⟨A9, c9, e9, h9⟩, e10, e11, e12, ⟨A13, c13, e13, h13⟩, e14, e15, e16, e17, e18, e19, e20, e21, e22⟩ := hV
  simp only [e0, e1, e2, e3, e4, e5, e6, e7, e8, e9, e10, e11, e12, e13, e14, e15, e16, e17, e18, e19, e20, e21, e22]
  clear e0 e1 e2 e3 e4 e5 e6 e7 e8 e9 e10 e11 e12 e13 e14 e15 e16 e17 e18 e19 e20 e21 e22
  refine wpAny_done (by kernel_rfl) ?_ _
  have hB3 := hS.2.1
  have k3 := hS.1
  have hBk3 := hBk2.below hS.2.2
  clear hS k2 hB2 hBk2 hN
  have hmk := make_i (P := Tryz.prog) 22 2 Tryz.underlying22 info_i n (by omega)
  go_wp2_with fail
  go_loopw [7, 8, 9] (fun i _ _ wr => ∃ k : Nat, k ≤ n ∧ i = .int .i64 k ∧ (List.range k).all (fun i => onlyL (imgL P sq n xs i) 1) = true ∧ Blk wr w.heap.size 29 #[.int .i64 P, .slice A n c] ∧ Below w.heap.size w wr ∧ Below w'.heap.size w' wr) (fun i _ _ _ => n - (intOf i).toNat)
  case atStart => exact ⟨0, by omega, rfl, rfl, k3, hB3, Below.refl _ _⟩
  case round =>
    obtain ⟨k, hk, rfl, hal, hk3, hBr, hB5r⟩ := hrel
    have HAL := Lib.hid hal
    clear hal k3 hB3
    obtain ⟨q0, q1⟩ := hk3.two
    by_cases hlt : k < n
    · have hm1 := Mk.made (E := 2) (n := n) (z := .int .i64 0) (Below.refl wr.heap.size wr) (by simp only [maxLen]; omega)
      rw [ints_replicate] at hm1
      obtain ⟨u1, hc1⟩ := hm1.2.cellI hlt
      have hf1 := hm1.2.frozen_ k
      have hm2 := (hm1.set k (.int .i64 1)).1
      rw [ints_set, World.setCell_alloc_at _ _ _ _ _ rfl] at hm2
      have hE0 : MkI wr _ (some ⟨wr.heap.size, 0, none⟩) n n (unitRow n k) := hm2
      have HE := Lib.hid hE0
      have HU := unitRow_nums hp n k
      clear hm1 hm2 hE0
      go_wp2
      obtain ⟨w6, hw6⟩ : ∃ W, W = wr.alloc (.cells ((madeCells #[.int .i64 0] n).setIfInBounds k (.int .i64 1)) 2) := ⟨_, rfl⟩
      have hE : MkI wr w6 (some ⟨wr.heap.size, 0, none⟩) n n (unitRow n k) := by rw [hw6]; exact HE.out
      rw [← hw6]
      clear hw6 HE hc1 hf1 q0 q1
      have k6 := hk3.below hE.b hk3.lt
      have hB6 := hBr.trans (hE.b.mono hBr.size)
      have hBk := hBk3
      refine wp_obs 12 [[], [], [], [], [2, 3], [], [], [5, 6], [1, 2, 3, 4, 5, 6, 7], [], [0, 1, 2, 3, 4, 5, 6, 7, 8, 9], [0, 1, 2, 3, 4, 5, 6, 7, 8, 9, 10]] [VIs (.agg #[.int .i64 P, .slice A n c]), VIs (.agg #[.int .i64 P, .slice A n c]), VIs (.agg #[.int .i64 P, .slice A n c]), VIs (.slice X (pw n) cx), VSl w (pw n) (invoL P xs), VIs (.agg #[.int .i64 P, .slice A n c]), VIs (.slice (some ⟨wr.heap.size, 0, none⟩) n n), VSl w (pw n) (vecTo n (unitRow n k) n), VSl w (pw n) (mulL P sq (invoL P xs) (vecTo n (unitRow n k) n)), VIs (.slice Bk (pw n) cB), VSl w (pw n) (mulL P sq (mulL P sq (invoL P xs) (vecTo n (unitRow n k) n)) (revL P xs)), VSl w (pw n) (mulL P sq (mulL P sq (invoL P xs) (vecTo n (unitRow n k) n)) (revL P xs))] (fun w' => Blk w' w.heap.size 29 #[.int .i64 P, .slice A n c] ∧ Below w.heap.size w w' ∧ Below w6.heap.size w6 w') (by kernel_rfl) (by kernel_rfl) (fun _ _ h hb => ⟨h.1.below hb h.1.lt, h.2.1.trans (hb.mono h.2.1.size), h.2.2.trans (hb.mono h.2.2.size)⟩) (⟨k6.drew, hB6.drew, (Below.refl _ _).drew⟩) (fun x => ?_)
      refine obs_step (Eq.trans (by simp only [List.getElem?_toArray, List.getElem?_cons_zero]; exact rfl) rfl) rfl (fun w' hS hV K hK => ?_) ?_
      · obtain ⟨q0, q1⟩ := hS.1.two
        go_simp
        exact hK.out _ _ _ rfl rfl rfl (Below.refl _ _)
      simp only [List.setIfInBounds_toArray, List.set_cons_zero, List.set_cons_succ]
      refine obs_step (Eq.trans (by simp only [List.getElem?_toArray, List.getElem?_cons_succ, List.getElem?_cons_zero]; exact rfl) rfl) rfl (fun w' hS hV K hK => ?_) ?_
      · obtain ⟨q0, q1⟩ := hS.1.two
        go_simp
        exact hK.out _ _ _ rfl rfl rfl (Below.refl _ _)
      simp only [List.setIfInBounds_toArray, List.set_cons_zero, List.set_cons_succ]
      refine obs_step (Eq.trans (by simp only [List.getElem?_toArray, List.getElem?_cons_succ, List.getElem?_cons_zero]; exact rfl) rfl) rfl (fun w' hS hV K hK => ?_) ?_
      · obtain ⟨q0, q1⟩ := hS.1.two
        go_simp
        exact hK.out _ _ _ rfl rfl rfl (Below.refl _ _)
      simp only [List.setIfInBounds_toArray, List.set_cons_zero, List.set_cons_succ]
      refine obs_step (Eq.trans (by simp only [List.getElem?_toArray, List.getElem?_cons_succ, List.getElem?_cons_zero]; exact rfl) rfl) rfl (fun w' hS hV K hK => ?_) ?_
      · obtain ⟨q0, q1⟩ := hS.1.two
        go_simp
        exact hK.out _ _ _ rfl rfl rfl (Below.refl _ _)
      simp only [List.setIfInBounds_toArray, List.set_cons_zero, List.set_cons_succ]
      refine obs_step (Eq.trans (by simp only [List.getElem?_toArray, List.getElem?_cons_succ, List.getElem?_cons_zero]; exact rfl) rfl) rfl (fun w' hS hV K hK => ?_) ?_
      · simp only [List.mem_cons, List.not_mem_nil, or_false, forall_eq_or_imp, forall_eq, List.getD_cons_succ, List.getD_cons_zero, VIs, VSl, VAny] at hV
        obtain ⟨e2, e3⟩ := hV
        obtain ⟨q0, q1⟩ := hS.1.two
        go_simp
        refine (l04Involute_any P A n c _ (pw n) _ xs _ hp hp2 HPW64 (hx.below hS.2.1) hxs).mono ?_
        rintro e w1 ⟨A2, c2, rfl, hM⟩
        exact hK.out _ _ _ rfl rfl ⟨_, _, rfl, hM.after hS.2.1⟩ hM.b
      simp only [List.setIfInBounds_toArray, List.set_cons_zero, List.set_cons_succ]
      refine obs_step (Eq.trans (by simp only [List.getElem?_toArray, List.getElem?_cons_succ, List.getElem?_cons_zero]; exact rfl) rfl) rfl (fun w' hS hV K hK => ?_) ?_
      · obtain ⟨q0, q1⟩ := hS.1.two
        go_simp
        exact hK.out _ _ _ rfl rfl rfl (Below.refl _ _)
      simp only [List.setIfInBounds_toArray, List.set_cons_zero, List.set_cons_succ]
      refine obs_step (Eq.trans (by simp only [List.getElem?_toArray, List.getElem?_cons_succ, List.getElem?_cons_zero]; exact rfl) rfl) rfl (fun w' hS hV K hK => ?_) ?_
      · obtain ⟨q0, q1⟩ := hS.1.two
        go_simp
        exact hK.out _ _ _ rfl rfl rfl (Below.refl _ _)
      simp only [List.setIfInBounds_toArray, List.set_cons_zero, List.set_cons_succ]
      refine obs_step (Eq.trans (by simp only [List.getElem?_toArray, List.getElem?_cons_succ, List.getElem?_cons_zero]; exact rfl) rfl) rfl (fun w' hS hV K hK => ?_) ?_
      · simp only [List.mem_cons, List.not_mem_nil, or_false, forall_eq_or_imp, forall_eq, List.getD_cons_succ, List.getD_cons_zero, VIs, VSl, VAny] at hV
        obtain ⟨e5, e6⟩ := hV
        obtain ⟨q0, q1⟩ := hS.1.two
        go_simp
        refine (l04Vector_any P A n c _ _ (unitRow n k) _ (by omega) (hE.rd.below hS.2.2)).mono ?_
        rintro e w1 ⟨A2, c2, rfl, hM⟩
        exact hK.out _ _ _ rfl rfl ⟨_, _, rfl, hM.after hS.2.1⟩ hM.b
      simp only [List.setIfInBounds_toArray, List.set_cons_zero, List.set_cons_succ]
      refine obs_step (Eq.trans (by simp only [List.getElem?_toArray, List.getElem?_cons_succ, List.getElem?_cons_zero]; exact rfl) rfl) rfl (fun w' hS hV K hK => ?_) ?_
      · simp only [List.mem_cons, List.not_mem_nil, or_false, forall_eq_or_imp, forall_eq, List.getD_cons_succ, List.getD_cons_zero, VIs, VSl, VAny] at hV
        obtain ⟨e1, e2, e3, ⟨A4, c4, e4, h4⟩, e5, e6, ⟨A7, c7, e7, h7⟩⟩ := hV
        obtain ⟨q0, q1⟩ := hS.1.two
        go_simp
        refine (l04Times_any P A n c sq _ _ (invoL P xs) _ _ (vecTo n (unitRow n k) n) _ hp hp2 hn (ha.below hS.2.1) hs h4.rd (sgnL_nums (by omega) oddT hxs) h7.rd (vecTo_nums (by omega) n (unitRow n k) HU n)).mono ?_
        rintro e w1 ⟨A2, c2, rfl, hM⟩
        exact hK.out _ _ _ rfl rfl ⟨_, _, rfl, hM.after hS.2.1⟩ hM.b
      simp only [List.setIfInBounds_toArray, List.set_cons_zero, List.set_cons_succ]
      refine obs_step (Eq.trans (by simp only [List.getElem?_toArray, List.getElem?_cons_succ, List.getElem?_cons_zero]; exact rfl) rfl) rfl (fun w' hS hV K hK => ?_) ?_
      · obtain ⟨q0, q1⟩ := hS.1.two
        go_simp
        exact hK.out _ _ _ rfl rfl rfl (Below.refl _ _)
      simp only [List.setIfInBounds_toArray, List.set_cons_zero, List.set_cons_succ]
      refine obs_step (Eq.trans (by simp only [List.getElem?_toArray, List.getElem?_cons_succ, List.getElem?_cons_zero]; exact rfl) rfl) rfl (fun w' hS hV K hK => ?_) ?_
      · simp only [List.mem_cons, List.not_mem_nil, or_false, forall_eq_or_imp, forall_eq, List.getD_cons_succ, List.getD_cons_zero, VIs, VSl, VAny] at hV
        obtain ⟨e0, e1, e2, e3, ⟨A4, c4, e4, h4⟩, e5, e6, ⟨A7, c7, e7, h7⟩, ⟨A8, c8, e8, h8⟩, e9⟩ := hV
        obtain ⟨q0, q1⟩ := hS.1.two
        go_simp
        refine (l04Times_any P A n c sq _ _ (mulL P sq (invoL P xs) (vecTo n (unitRow n k) n)) _ _ (revL P xs) _ hp hp2 hn (ha.below hS.2.1) hs h8.rd (mulL_nums (by omega) sq (invoL P xs) (vecTo n (unitRow n k) n)) ((hBk.rd.below hB5r).below (hE.b.trans (hS.2.2.mono hE.b.size))) (sgnL_nums (by omega) revT hxs)).mono ?_
        rintro e w1 ⟨A2, c2, rfl, hM⟩
        exact hK.out _ _ _ rfl rfl ⟨_, _, rfl, hM.after hS.2.1⟩ hM.b
      simp only [List.setIfInBounds_toArray, List.set_cons_zero, List.set_cons_succ]
      refine obs_step (Eq.trans (by simp only [List.getElem?_toArray, List.getElem?_cons_succ, List.getElem?_cons_zero]; exact rfl) rfl) rfl (fun w' hS hV K hK => ?_) ?_
      · simp only [List.mem_cons, List.not_mem_nil, or_false, forall_eq_or_imp, forall_eq, List.getD_cons_succ, List.getD_cons_zero, VIs, VSl, VAny] at hV
        obtain ⟨e0, e1, e2, e3, ⟨A4, c4, e4, h4⟩, e5, e6, ⟨A7, c7, e7, h7⟩, ⟨A8, c8, e8, h8⟩, e9, ⟨A10, c10, e10, h10⟩⟩ := hV
        obtain ⟨q0, q1⟩ := hS.1.two
        go_simp
        exact hK.out _ _ _ rfl rfl ⟨_, _, rfl, h10⟩ (Below.refl _ _)
      simp only [List.setIfInBounds_toArray, List.set_cons_zero, List.set_cons_succ]
      refine fun w' hS hV => ?_
      have hV := fun i hi => hV i (List.mem_range.1 hi)
      simp only [List.range, List.range.loop, List.mem_cons, List.not_mem_nil, or_false, forall_eq_or_imp, forall_eq, List.getD_cons_succ, List.getD_cons_zero, VIs, VSl, VAny] at hV
      obtain ⟨e0, e1, e2, e3, ⟨A4, c4, e4, h4⟩, e5, e6, ⟨A7, c7, e7, h7⟩, ⟨A8, c8, e8, h8⟩, e9, ⟨A10, c10, e10, h10⟩, ⟨A11, c11, e11, h11⟩⟩ := hV
      simp only [e0, e1, e2, e3, e4, e5, e6, e7, e8, e9, e10, e11]
      clear e0 e1 e2 e3 e4 e5 e6 e7 e8 e9 e10 e11
      refine wpAny_done (by kernel_rfl) ?_ _
      have hIm := h11
      have HIL := Lib.hid (onlyL_part (ys := imgL P sq n xs k) (by unfold imgL; rw [mulL_len, mulL_len]; unfold invoL; rw [sgnL_len, hx.lenI]; exact HPW64) (mulL_nums (show 0 < P by omega) sq _ (revL P xs)) 1)
      have hB7 := hS.2.1
      have k7 := hS.1
      have hB5s := hB5r.trans ((hE.b.trans (hS.2.2.mono hE.b.size)).mono hB5r.size)
      clear hS k6 hB6 hE h4 h7 h8 h11 hk3 hBr
      have hIr : Rd _ A11 (pw n) (ints (imgL P sq n xs k)) := hIm.rd
      clear hIm
      cases ho : onlyL (imgL P sq n xs k) 1
      all_goals
        have H4 := Lib.hid ho
        clear ho
        go_wp2_with fail
        refine (l04Part_any _ _ _ _ 1 _ HPW64 (by omega) hIr).mono ?_
        rintro e w8 ⟨Pt, cP, rfl, hPt⟩
        go_wp2_with fail
        refine (l01Same_b _ _ _ _ _ _ _ _ _ (by omega) (by omega) (hIr.below hPt.b) hPt.rd (HIL.out.trans H4.out)).mono ?_
        rintro e w9 ⟨rfl, j9, rfl⟩
        have hB9 := below_drewN (hB7.trans (hPt.b.mono hB7.size)) j9
        have k9 : Blk (w8.drewN j9) w.heap.size 29 #[.int .i64 P, .slice A n c] := k7.below (below_drewN hPt.b j9) k7.lt
        have hB59 := below_drewN (hB5s.trans (hPt.b.mono hB5s.size)) j9
        clear hB7 k7 hB5s hIr hPt
        go_wp2
      · go_ret
        refine ⟨ret_bool ?_, hB9⟩
        have : ((List.range n).all fun i => onlyL (imgL P sq n xs i) 1) = false := by
          rw [List.all_eq_false]
          exact ⟨k, by simpa using hlt, by rw [H4.out]; decide⟩
        unfold versB
        rw [this, Bool.and_false]
      · go_roundw
        case rel => exact ⟨k + 1, by omega, by go_num, by rw [List.range_succ, List.all_append, HAL.out]; simp [H4.out], k9, hB9, hB59⟩
        case measure => simp [intOf]; omega
    · obtain rfl : k = n := by omega
      go_wp2
      go_ret
      exact ⟨ret_bool (by unfold versB; rw [H1.out, H2.out, H3.out, HAL.out]; rfl), hBr⟩
theorem l07Is_any (P : Int) (A : Option Addr) (n c : Nat) (sq : List Int) (X : Option Addr) (cx : Nat) (xs : List Int) (w : World) (hp : 2 ≤ P) (hp2 : P ≤ 13) (hn : n ≤ 6) (ha : Rd w A n (ints sq)) (hs : NumsL P sq) (hx : Rd w X (pw n) (ints xs)) (hxs : NumsL P xs) (hcx : pw n ≤ cx) (HP : isP P = true) :
    Calls Tryz.prog 47 #[.agg #[.int .i64 P, .slice A n c], .slice X (pw n) cx] w fun e w' => e = .returned (.bool (versB P sq n xs)) ∧ Below w.heap.size w w' := by
  by_cases h1 : nrmL P sq xs = 0
  · exact l07Is_A P A n c sq X cx xs w hp hp2 hn ha hs hx hxs hcx HP h1
  · cases h2 : onlyL (mulL P sq xs (revL P xs)) 0
    · exact l07Is_B P A n c sq X cx xs w hp hp2 hn ha hs hx hxs hcx HP h1 h2
    · cases h3 : mixB (gradesL xs)
      · exact l07Is_D P A n c sq X cx xs w hp hp2 hn ha hs hx hxs hcx HP h1 h2 h3
      · exact l07Is_C P A n c sq X cx xs w hp hp2 hn ha hs hx hxs hcx HP h1 h2 h3
end Go.Proofs.YtklnkhkfcalndaaGreat
namespace Go.Proofs.YtklnkhkfcalndaaGreat
open Go.RowKit
theorem Blk.new_at {w : World} {t : TypeId} {cs : Array Value} {g : Nat} (hg : g = w.heap.size) : Blk (w.alloc (.cells cs t)) g t cs := hg ▸ Blk.new w t cs
theorem RdII.nil (w : World) (A : Option Addr) : RdII w A 0 [] := ⟨[], Rd.nil w A, rfl, fun k h => absurd h (by simp)⟩
theorem codeVs_nil (P : Int) (sq : List Int) (ms : List (List Int)) : codeVs P sq ms [] = codeR P sq ms := by
  unfold codeVs codeR
  by_cases h : codeM P sq ms = 0
  · rw [if_pos h, if_pos h]
    have : codeV P sq [] = 0 := by unfold codeV; rw [(codeM_sp h).1]; rfl
    rw [if_pos this]
  · rw [if_neg h, if_neg h]
/-- What a code 0 says. -/
theorem codeR_zero {P : Int} {sq : List Int} {ms : List (List Int)} (h : codeR P sq ms = 0) : codeM P sq ms = 0 ∧ regB sq = true := by
  unfold codeR at h
  by_cases h1 : codeM P sq ms = 0
  · rw [if_pos h1] at h
    cases h2 : regB sq
    · rw [h2] at h; simp at h
    · exact ⟨h1, rfl⟩
  · rw [if_neg h1] at h; exact absurd h h1
theorem isMu_spec {P : Int} {sq ys : List Int} (h : isMu P sq ys = true) : ys.length = pw sq.length ∧ NumsL P ys := by
  unfold isMu at h
  simp only [Bool.and_eq_true, beq_iff_eq] at h
  exact ⟨by have := h.1; omega, nums_numsL h.2⟩
theorem codeM_spec {P : Int} {sq : List Int} {ms : List (List Int)} (h : codeM P sq ms = 0) : isP P = true ∧ 2 ≤ P ∧ P ≤ 13 ∧ 1 ≤ sq.length ∧ sq.length ≤ 6 ∧ NumsL P sq ∧ ∀ ys ∈ ms, ys.length = pw sq.length ∧ NumsL P ys := by
  obtain ⟨h1, h2⟩ := codeM_sp h
  obtain ⟨hp, hd1, hd2, hnum⟩ := isSp_dim h1
  have := isP_ge hp
  exact ⟨hp, by omega, by omega, hd1, hd2, nums_numsL hnum, fun ys hy => isMu_spec (h2 ys hy)⟩
/-- The code of a regular space and a versor. -/
def codeVr (P : Int) (sq xs : List Int) : Int := if codeR P sq [xs] = 0 then (if versB P sq sq.length xs then 0 else 5) else codeR P sq [xs]
theorem versB_norm {P : Int} {sq : List Int} {n : Nat} {xs : List Int} (hp : 2 ≤ P) (h : versB P sq n xs = true) : 0 < nrmL P sq xs := by
  have h1 := nrmL_small hp sq xs
  have : (nrmL P sq xs == 0) = false := by
    unfold versB at h
    simp only [Bool.and_eq_true, Bool.not_eq_true'] at h
    exact h.1.1.1
  have : nrmL P sq xs ≠ 0 := by simpa using this
  omega
theorem ret_tupS {A : Option Addr} {k c : Nat} {x y : Int} (h2 : x = y) : Ending.returned (.tuple #[.slice A k c, .int .i64 x]) = .returned (.tuple #[.slice A k c, .int .i64 y]) := by rw [h2]
set_option maxHeartbeats 1600000 in
set_option maxRecDepth 8000 in
theorem l07Code_any (P : Int) (A : Option Addr) (n c : Nat) (sq : List Int) (X : Option Addr) (m cx : Nat) (xs : List Int) (w : World) (hn : n ≤ 1048576) (hm : m ≤ 1048576) (ha : Rd w A n (ints sq)) (hx : Rd w X m (ints xs)) (hcx : m ≤ cx) :
    Calls Tryz.prog 20 #[.agg #[.int .i64 P, .slice A n c], .slice X m cx] w fun e w' => e = .returned (.int .i64 (codeVr P sq xs)) ∧ Below w.heap.size w w' := by
  have hB0 : Below w.heap.size w (w.alloc (.cells #[.int .i64 P, .slice A n c] 29)) := (Below.refl _ _).alloc (Nat.le_refl _) _
  have k0 : Blk (w.alloc (.cells #[.int .i64 P, .slice A n c] 29)) w.heap.size 29 #[.int .i64 P, .slice A n c] := Blk.new _ _ _
  have hB1 : Below w.heap.size w ((w.alloc (.cells #[.int .i64 P, .slice A n c] 29)).alloc (.cells #[.slice X m cx] 22)) := hB0.alloc (by simp) _
  have k1 : Blk ((w.alloc (.cells #[.int .i64 P, .slice A n c] 29)).alloc (.cells #[.slice X m cx] 22)) w.heap.size 29 #[.int .i64 P, .slice A n c] := k0.alloc _
  have hreg := l05Regular_any P A (some ⟨w.heap.size + 1, 0, none⟩) n c 1 1 sq [xs] ((w.alloc (.cells #[.int .i64 P, .slice A n c] 29)).alloc (.cells #[.slice X m cx] 22)) hn (by omega) (ha.below hB1) (rdII_one' (Blk.new_at (by simp)) (hx.below hB1) hcx) (all_one (by rw [hx.lenI]; exact hm))
  obtain ⟨r, hr⟩ : ∃ r, r = codeR P sq [xs] := ⟨_, rfl⟩
  have HR := Lib.hid hr
  by_cases hr0 : r = 0
  · have hcM := (codeR_zero (hr.symm.trans hr0)).1
    obtain ⟨HP, hp, hp2, hd1, hd2, hs, hms⟩ := codeM_spec hcM
    have hxl := hx.lenI
    have hsl := ha.lenI
    obtain ⟨hl1, hxs⟩ := hms xs (by simp)
    have hn6 : n ≤ 6 := by omega
    have hmn : m = pw n := by rw [← hxl, hl1, hsl]
    subst hmn
    have HSL := Lib.hid hsl
    have HS := Lib.hid hs
    have HXS := Lib.hid hxs
    clear hxl hsl hms hl1 hd1 hd2 hcM hs hxs
    have HR0 := Lib.hid hr0
    have b0 := code_eq hr0
    clear hr hr0

    have b0' : (r == 0) = true := by rw [HR0.out]; rfl
    cases hv : versB P sq n xs
    all_goals
      have HV := Lib.hid hv
      clear hv
      go_enter Tryz.func20, Tryz.ntmps20
      go_wp2_with fail
      refine hreg.mono ?_
      rintro e w2 ⟨rfl, hb2⟩
      rw [← HR.out]
      have hB2 := hB1.trans (hb2.mono hB1.size)
      have k2 := k1.below hb2 k1.lt
      obtain ⟨q0, q1⟩ := k2.two
      clear k1 hB1 hb2
      go_wp2_with fail
      refine (l07Is_any P A n c sq X cx xs _ hp hp2 hn6 (ha.below hB2) HS.out (hx.below hB2) HXS.out hcx HP).mono ?_
      rintro e w3 ⟨rfl, hb3⟩
      rw [HV.out]
      go_wp2
      go_ret
      exact ⟨ret_int (by unfold codeVr; rw [← HR.out, if_pos HR0.out, HSL.out, HV.out]; first | rfl | exact HR0.out), hB2.trans (hb3.mono hB2.size)⟩
  · have HR0 := Lib.hid hr0
    have b0 := code_ne hr0
    clear hr hr0
    go_enter Tryz.func20, Tryz.ntmps20
    go_wp2_with fail
    refine hreg.mono ?_
    rintro e w2 ⟨rfl, hb2⟩
    rw [← HR.out]
    have hB2 := hB1.trans (hb2.mono hB1.size)
    have k2 := k1.below hb2 k1.lt
    obtain ⟨q0, q1⟩ := k2.two
    clear k1 hB1 hb2
    have b0' : (r == 0) = false := by have := HR0.out; simp [this]
    go_wp2
    go_ret
    exact ⟨ret_int (by unfold codeVr; rw [← HR.out, if_neg HR0.out]), hB2⟩
theorem codeVr_eq {P : Int} {sq xs : List Int} (h : codeR P sq [xs] = 0) : codeVr P sq xs = if versB P sq sq.length xs then 0 else 5 := by unfold codeVr; rw [if_pos h]
theorem codeVr_ne {P : Int} {sq xs : List Int} (h : ¬ codeR P sq [xs] = 0) : codeVr P sq xs = codeR P sq [xs] := by unfold codeVr; rw [if_neg h]
theorem codeVr_zero {P : Int} {sq xs : List Int} (h : codeVr P sq xs = 0) : codeR P sq [xs] = 0 ∧ versB P sq sq.length xs = true := by
  unfold codeVr at h
  by_cases h1 : codeR P sq [xs] = 0
  · rw [if_pos h1] at h
    cases h2 : versB P sq sq.length xs
    · rw [h2] at h; simp at h
    · exact ⟨h1, rfl⟩
  · rw [if_neg h1] at h; exact absurd h h1
end Go.Proofs.YtklnkhkfcalndaaGreat
namespace Go.Proofs.YtklnkhkfcalndaaGreat
/-- m after k columns with d rows done; c: the places of the firsts. -/
structure Ech (m : List (List Int)) (k d : Nat) (c : Nat → Nat) : Prop where
  lt : ∀ i, i < d → c i < k
  mono : ∀ i j, i < j → j < d → c i < c j
  one : ∀ i, i < d → ent m i (c i) = 1
  zero : ∀ i, i < d → ∀ r, r < m.length → r ≠ i → ent m r (c i) = 0
  before : ∀ i, i < d → ∀ q, q < c i → ent m i q = 0
  rest : ∀ r, d ≤ r → r < m.length → ∀ q, q < k → ent m r q = 0
theorem ent_set {m : List (List Int)} {d : Nat} {x : List Int} (hd : d < m.length) (r q : Nat) : ent (m.set d x) r q = if r = d then x.getD q 0 else ent m r q := by
  unfold ent
  rw [getD_set]
  by_cases h : r = d
  · rw [if_pos ⟨h.symm, hd⟩, if_pos h]
  · rw [if_neg (fun hh => h hh.1.symm), if_neg h]
theorem ent_swap {m : List (List Int)} {i j : Nat} (hi : i < m.length) (hj : j < m.length) (r q : Nat) : ent (swapL m i j) r q = if r = j then ent m i q else if r = i then ent m j q else ent m r q := by
  unfold swapL
  rw [ent_set (by rw [List.length_set]; exact hj)]
  split
  · rfl
  · rw [ent_set hi]
    split
    · rfl
    · rfl
theorem ent_scaled {p : Int} {m : List (List Int)} {k d v : Nat} (hv : pivOf m k d = v) (hd : d < m.length) (hvl : v < m.length) {n : Nat} (hT : Tab p n m) (r q : Nat) (hq : q < n) :
    ent (scaledAt p m k d) r q = if r = d then ent m v q * invF p (ent m v k) % p else if r = v then ent m d q else ent m r q := by
  unfold scaledAt
  rw [hv, ent_set (by rw [swapL_len]; exact hd)]
  by_cases h : r = d
  · rw [if_pos h, if_pos h, scaleL_getD _ (by rw [(hT.row hvl).1]; exact hq)]; rfl
  · rw [if_neg h, if_neg h, ent_swap hd hvl]
    by_cases h2 : r = v
    · rw [if_pos h2, if_pos h2]
    · rw [if_neg h2, if_neg h2, if_neg h]
theorem ent_cleared {p : Int} {n : Nat} {m : List (List Int)} (hT : Tab p n m) (d k r q : Nat) (hr : r < m.length) (hq : q < n) :
    ent (clearTo p m d k m.length) r q = if r = d then ent m d q else (ent m r q + -(ent m r k) * ent m d q) % p := by
  show ((clearTo p m d k m.length).getD r []).getD q 0 = _
  rw [clearTo_getD hr]
  by_cases h : r = d
  · rw [if_neg (fun hh => hh.2 h), if_pos h, h]; rfl
  · rw [if_pos ⟨hr, h⟩, if_neg h, plusL_getD _ _ (by rw [(hT.row hr).1]; exact hq)]; rfl
theorem Ech.step {p : Int} (hP : isP p = true) {n : Nat} {s : List (List Int) × Nat} {k : Nat} {c : Nat → Nat} (hT : Tab p n s.1) (hd : s.2 ≤ s.1.length) (hk : k < n) (h : Ech s.1 k s.2 c) : ∃ c', Ech (stepB p k s).1 (k + 1) (stepB p k s).2 c' := by
  obtain ⟨m, d⟩ := s
  simp only at hT hd h
  obtain ⟨hb1, hb2⟩ := pivOf_bound m k d hd
  have hp : 2 ≤ p := by have := isP_ge hP; omega
  unfold stepB
  simp only
  by_cases hv : pivOf m k d = m.length
  · rw [if_pos hv]
    refine ⟨c, fun i hi => by have := h.lt i hi; omega, h.mono, h.one, h.zero, h.before, fun r h1 h2 q hq => ?_⟩
    by_cases hqk : q = k
    · subst hqk
      have h2' : r < m.length := h2
      exact piv_before m q (m.length - d) d r h1 (by show r < pivOf m q d; omega)
    · exact h.rest r h1 h2 q (by omega)
  · rw [if_neg hv]
    obtain ⟨v, hvv⟩ : ∃ v, v = pivOf m k d := ⟨_, rfl⟩
    rw [← hvv] at hb1 hb2 hv
    have hvl : v < m.length := by omega
    have hdl : d < m.length := by omega
    have hne : ent m v k ≠ 0 := by rw [hvv]; exact piv_at m k (m.length - d) d (by show pivOf m k d < _; omega)
    have hrange := hT.ent (by omega) v k
    obtain ⟨i1, i2, i3⟩ := inv_spec hP (show 0 < ent m v k by omega) hrange.2
    have hone : ent m v k * invF p (ent m v k) % p = 1 := (i3 _ (by omega) i2).2 rfl
    have hT1 : Tab p n (scaledAt p m k d) := scaledAt_tab (by omega) hT hdl (by omega)
    have hl1 : (scaledAt p m k d).length = m.length := scaledAt_len p m k d
    have e1 := fun r q (hq : q < n) => ent_scaled (p := p) (m := m) (k := k) (d := d) hvv.symm hdl hvl hT r q hq
    have e2 := fun r q (hr : r < m.length) (hq : q < n) => ent_cleared (p := p) hT1 d k r q (by rw [hl1]; exact hr) hq
    rw [hl1] at e2
    have c1 : ∀ i, i < d → c i < n := fun i hi => by have := h.lt i hi; omega
    have z1 : ∀ q, q < k → ent (scaledAt p m k d) d q = 0 := fun q hq => by
      rw [e1 d q (by omega), if_pos rfl, h.rest v hb1 hvl q hq]; simp
    have o1 : ent (scaledAt p m k d) d k = 1 := by rw [e1 d k hk, if_pos rfl, hone]
    refine ⟨fun i => if i = d then k else c i, ?_, ?_, ?_, ?_, ?_, ?_⟩
    · intro i hi
      show (if i = d then k else c i) < k + 1
      split
      · omega
      · have := h.lt i (by omega); omega
    · intro i j hij hj
      show (if i = d then k else c i) < (if j = d then k else c j)
      rw [if_neg (show i ≠ d by omega)]
      split
      · exact h.lt i (by omega)
      · exact h.mono i j hij (by omega)
    · intro i hi
      show ent _ i (if i = d then k else c i) = 1
      by_cases hid : i = d
      · rw [if_pos hid, e2 i k (by omega) hk, if_pos hid, o1]
      · have hi' : i < d := by omega
        rw [if_neg hid, e2 i _ (by omega) (c1 i hi'), if_neg hid, z1 _ (h.lt i hi'), e1 i _ (c1 i hi'), if_neg hid, if_neg (show i ≠ v by omega), h.one i hi', Int.mul_zero]
        exact Int.emod_eq_of_lt (by omega) (by omega)
    · intro i hi r hr hri
      rw [clearTo_len, hl1] at hr
      show ent _ r (if i = d then k else c i) = 0
      by_cases hid : i = d
      · rw [if_pos hid, e2 r k hr hk, if_neg (fun e => hri (e.trans hid.symm)), o1, Int.mul_one]
        rw [Int.add_right_neg]; simp
      · have hi' : i < d := by omega
        rw [if_neg hid, e2 r _ hr (c1 i hi')]
        by_cases hrd : r = d
        · rw [if_pos hrd]; exact z1 _ (h.lt i hi')
        · rw [if_neg hrd, z1 _ (h.lt i hi'), e1 r _ (c1 i hi'), if_neg hrd]
          by_cases hrv : r = v
          · rw [if_pos hrv, h.zero i hi' d hdl (by omega)]; simp
          · rw [if_neg hrv, h.zero i hi' r hr hri]; simp
    · intro i hi q hq
      by_cases hid : i = d
      · have hq' : q < k := by simpa [hid] using hq
        rw [e2 i q (by omega) (by omega), if_pos hid]
        exact z1 q hq'
      · have hq' : q < c i := by simpa [hid] using hq
        have hi' : i < d := by omega
        have := h.lt i hi'
        rw [e2 i q (by omega) (by omega), if_neg hid, z1 q (by omega), e1 i q (by omega), if_neg hid, if_neg (show i ≠ v by omega), h.before i hi' q hq']
        simp
    · intro r h1 h2 q hq
      rw [clearTo_len, hl1] at h2
      rw [e2 r q h2 (by omega), if_neg (show r ≠ d by simp only at h1; omega)]
      by_cases hqk : q = k
      · subst hqk
        rw [o1, Int.mul_one, Int.add_right_neg]; simp
      · have hq' : q < k := by omega
        have h1' : d + 1 ≤ r := h1
        rw [z1 q hq', e1 r q (by omega), if_neg (show r ≠ d by omega)]
        by_cases hrv : r = v
        · rw [if_pos hrv, h.rest d (Nat.le_refl _) hdl q hq']; simp
        · rw [if_neg hrv, h.rest r (by omega) h2 q hq']; simp
/-- The place of the first number of row i. -/
def ld (B : List (List Int)) (i : Nat) : Nat := leadL (B.getD i [])
/-- A reduced basis of lists of n numbers. -/
structure Red (n : Nat) (B : List (List Int)) : Prop where
  lt : ∀ i, i < B.length → ld B i < n
  one : ∀ i, i < B.length → ent B i (ld B i) = 1
  zero : ∀ i r, i < B.length → r < B.length → r ≠ i → ent B r (ld B i) = 0
  mono : ∀ i j, i < j → j < B.length → ld B i < ld B j
theorem Red.before {n : Nat} {B : List (List Int)} (_h : Red n B) (i q : Nat) (hq : q < ld B i) : ent B i q = 0 := leadL_before _ q hq
theorem Red.inj {n : Nat} {B : List (List Int)} (h : Red n B) {i j : Nat} (hi : i < B.length) (hj : j < B.length) (e : ld B i = ld B j) : i = j := by
  rcases Nat.lt_trichotomy i j with hl | hl | hl
  · have := h.mono i j hl hj; omega
  · exact hl
  · have := h.mono j i hl hi; omega
theorem Red.nil (n : Nat) : Red n [] := ⟨fun i hi => absurd hi (by simp), fun i hi => absurd hi (by simp), fun i r hi => absurd hi (by simp), fun i j _ hj => absurd hj (by simp)⟩
theorem Red.len {n : Nat} {B : List (List Int)} (h : Red n B) : B.length ≤ n := by
  have hle : ∀ j, j < B.length → j ≤ ld B j := by
    intro j
    induction j with
    | zero => intro _; omega
    | succ j ih =>
      intro hj
      have h1 := ih (by omega)
      have h2 := h.mono j (j + 1) (by omega) hj
      omega
  by_cases h0 : B.length = 0
  · omega
  · have h1 := hle (B.length - 1) (by omega)
    have h2 := h.lt (B.length - 1) (by omega)
    omega
end Go.Proofs.YtklnkhkfcalndaaGreat
namespace Go.Proofs.YtklnkhkfcalndaaGreat
open Go.RowKit Go.Maps
/-- The map from the places of the firsts to the rows, of the first j rows. -/
structure Places {H : Type} (B : List (List Int)) (j : Nat) (D : DataW H) : Prop where
  map : IsMap D
  has : ∀ k : Nat, Maps.has D (.int .i64 k) = true ↔ ∃ i, i < j ∧ ld B i = k
  only : ∀ z : Lit, Maps.has D z = true → ∃ k : Nat, z = .int .i64 k
  val : ∀ i, i < j → ∀ zd, D.atKey (.int .i64 (ld B i)) zd = .lit (.int .i64 i)
theorem lit_ne {a b : Int} (h : a ≠ b) : Lit.int .i64 a ≠ Lit.int .i64 b := fun e => h (by injection e)
theorem Places.step {H : Type} {n : Nat} {B : List (List Int)} (hR : Red n B) {j : Nat} {D : DataW H} (h : Places B j D) (hj : j < B.length) : Places B (j + 1) (D.put (.int .i64 (ld B j)) (.lit (.int .i64 j))) := by
  refine ⟨h.map.put _ _, fun k => ?_, fun z hz => ?_, fun i hi zd => ?_⟩
  · by_cases hk : k = ld B j
    · subst hk
      exact ⟨fun _ => ⟨j, by omega, rfl⟩, fun _ => has_put_same h.map (show WideAt.IsKeyLit (.int .i64 (ld B j)) from trivial) _⟩
    · rw [has_put_other (lit_ne (by omega)), h.has k]
      constructor
      · rintro ⟨i, hi, e⟩; exact ⟨i, by omega, e⟩
      · rintro ⟨i, hi, e⟩
        refine ⟨i, ?_, e⟩
        by_cases hij : i = j
        · subst hij; exact absurd e.symm hk
        · omega
  · by_cases hk : z = .int .i64 (ld B j)
    · exact ⟨_, hk⟩
    · rw [has_put_other hk] at hz
      exact h.only z hz
  · by_cases hij : i = j
    · subst hij
      exact atKey_put_same h.map (show WideAt.IsKeyLit (.int .i64 (ld B i)) from trivial) _ _
    · rw [atKey_put_other (lit_ne (fun e => hij (hR.inj (by omega) hj (by omega))))]
      exact h.val i (by omega) zd
end Go.Proofs.YtklnkhkfcalndaaGreat
namespace Go.Proofs.YtklnkhkfcalndaaGreat
open Go.RowKit
theorem isMu_spec3 {P : Int} {sq ys : List Int} (h : isMu P sq ys = true) : ys.length = pw sq.length ∧ NumsL P ys := by
  unfold isMu at h
  simp only [Bool.and_eq_true, beq_iff_eq] at h
  exact ⟨by have := h.1; omega, nums_numsL h.2⟩
theorem codeM_spec3 {P : Int} {sq : List Int} {ms : List (List Int)} (h : codeM P sq ms = 0) : isP P = true ∧ 2 ≤ P ∧ P ≤ 13 ∧ 1 ≤ sq.length ∧ sq.length ≤ 6 ∧ NumsL P sq ∧ ∀ ys ∈ ms, ys.length = pw sq.length ∧ NumsL P ys := by
  obtain ⟨h1, h2⟩ := codeM_sp h
  obtain ⟨hp, hd1, hd2, hnum⟩ := isSp_dim h1
  have := isP_ge hp
  exact ⟨hp, by omega, by omega, hd1, hd2, nums_numsL hnum, fun ys hy => isMu_spec3 (h2 ys hy)⟩
end Go.Proofs.YtklnkhkfcalndaaGreat
namespace Go.Proofs.YtklnkhkfcalndaaGreat
open Go.RowKit
theorem Blk.newAt3 {w : World} {t : TypeId} {cs : Array Value} {g : Nat} (hg : g = w.heap.size) : Blk (w.alloc (.cells cs t)) g t cs := hg ▸ Blk.new w t cs
theorem totL_eq3 {L : List (List Int)} {n : Nat} (h : ∀ x ∈ L, x.length = n) : totL L = L.length * n := by
  induction L with
  | nil => simp [totL]
  | cons x r ih =>
    simp only [totL, List.length_cons]
    rw [h x (by simp), ih (fun y hy => h y (by simp [hy])), Nat.add_mul]
    omega
end Go.Proofs.YtklnkhkfcalndaaGreat
namespace Go.Proofs.YtklnkhkfcalndaaGreat
open Go.RowKit
/-- The columns of a versor's matrix, and the matrix. -/
def scolsL (P : Int) (sq : List Int) (n : Nat) (xs : List Int) : List (List Int) := tab n fun k => sandL P sq n xs (unitRow n k)
def vmatL (P : Int) (sq : List Int) (n : Nat) (xs : List Int) : List (List Int) := transL (scolsL P sq n xs)
theorem sandL_lens (P : Int) (sq : List Int) (n : Nat) (xs v : List Int) : (sandL P sq n xs v).length = n := by unfold sandL; rw [partL_len]
theorem scolsL_tab {P : Int} (hp : 2 ≤ P) (sq : List Int) (n : Nat) (xs : List Int) : Tab P n (scolsL P sq n xs) := Tab.tab fun _ _ => ⟨sandL_lens _ _ _ _ _, sandL_nums hp _ _ _ _⟩
theorem scolsL_len (P : Int) (sq : List Int) (n : Nat) (xs : List Int) : (scolsL P sq n xs).length = n := tab_len _ _
theorem vmatL_tab {P : Int} (hp : 2 ≤ P) (sq : List Int) (n : Nat) (xs : List Int) : Tab P n (vmatL P sq n xs) := by
  have := transL_tab (p := P) (by omega) (scolsL_tab hp sq n xs)
  rwa [scolsL_len] at this
theorem vmatL_len {P : Int} (hp : 2 ≤ P) (sq : List Int) {n : Nat} (h0 : 0 < n) (xs : List Int) : (vmatL P sq n xs).length = n := transL_len (scolsL_tab hp sq n xs) (by rw [scolsL_len]; exact h0)
/-- MatrixOfVersor. -/
def movR (P : Int) (sq xs : List Int) : List (List Int) × Int := if codeVr P sq xs = 0 then (vmatL P sq sq.length xs, 0) else ([], codeVr P sq xs)
theorem movR_len (P : Int) (sq xs : List Int) : (∀ x ∈ (movR P sq xs).1, x.length ≤ 1099511627776) ∧ totL (movR P sq xs).1 ≤ 1048576 ∧ (movR P sq xs).1.length ≤ 1048576 := by
  unfold movR
  split
  · rename_i h
    obtain ⟨_, hp, _, h1, h6, _, _⟩ := codeM_spec3 (codeR_zero (codeVr_zero h).1).1
    have hT := vmatL_tab hp sq sq.length xs
    have hl := vmatL_len hp sq (show 0 < sq.length by omega) xs
    refine ⟨fun x hx => ?_, ?_, ?_⟩
    · have := (hT x hx).1; omega
    · show totL (vmatL P sq sq.length xs) ≤ _
      rw [totL_eq3 fun x hx => (hT x hx).1, hl]
      exact Nat.le_trans (Nat.mul_le_mul h6 h6) (by decide)
    · show (vmatL P sq sq.length xs).length ≤ _
      omega
  · simp [totL]
set_option maxHeartbeats 1600000 in
set_option maxRecDepth 8000 in
theorem movCol_any (g gx : Nat) (P : Int) (A : Option Addr) (n c : Nat) (sq : List Int) (X : Option Addr) (cx : Nat) (xs : List Int) (Y : Option Addr) (cy : Nat) (v : List Int) (w : World) (hp : 2 ≤ P) (hp2 : P ≤ 13) (hn : n ≤ 6) (ha : Rd w A n (ints sq)) (hs : NumsL P sq) (hx : Rd w X (pw n) (ints xs)) (hxs : NumsL P xs) (hcx : pw n ≤ cx) (hy : Rd w Y n (ints v)) (hys : NumsL P v) (hcy : n ≤ cy) (kg : Blk w g 29 #[.int .i64 P, .slice A n c]) (kx : Blk w gx 22 #[.slice X (pw n) cx]) :
    Calls Tryz.prog 25 #[.slice Y n cy, .pointer (some ⟨g, 0, none⟩), .pointer (some ⟨gx, 0, none⟩)] w fun e w' => ∃ A' c', e = .returned (.slice A' n c') ∧ MkI w w' A' n c' (sandL P sq n xs v) := by
  obtain ⟨q0, q1⟩ := kg.two
  have qx := kx.cell 0
  simp only [List.getElem?_toArray, List.getElem?_cons_zero] at qx
  have hcall := sandwich_any P A n c sq X cx xs Y cy v w hp hp2 hn ha hs hx hxs hcx hy hys hcy
  go_enter Tryz.func25, Tryz.ntmps25
  go_wp2_with fail
  refine hcall.mono ?_
  rintro e w2 ⟨A2, c2, rfl, hM⟩
  go_wp2
  go_ret
  exact ⟨_, _, rfl, hM⟩
set_option maxHeartbeats 3200000 in
set_option maxRecDepth 8000 in
theorem l08Matrix_any (P : Int) (A : Option Addr) (n c : Nat) (sq : List Int) (X : Option Addr) (cx : Nat) (xs : List Int) (w : World) (hp : 2 ≤ P) (hp2 : P ≤ 13) (hn : n ≤ 6) (h0 : 0 < n) (ha : Rd w A n (ints sq)) (hs : NumsL P sq) (hx : Rd w X (pw n) (ints xs)) (hxs : NumsL P xs) (hcx : pw n ≤ cx) (HP : isP P = true) (hpos : 0 < nrmL P sq xs) :
    Calls Tryz.prog 21 #[.agg #[.int .i64 P, .slice A n c], .slice X (pw n) cx] w fun e w' => ∃ A' c', e = .returned (.slice A' n c') ∧ MkII w w' A' n c' (vmatL P sq n xs) := by
  have hpn := pw_pos n
  have hpw : pw n ≤ 64 := pw_le hn
  have hB0 : Below w.heap.size w (w.alloc (.cells #[.int .i64 P, .slice A n c] 29)) := (Below.refl _ _).alloc (Nat.le_refl _) _
  have k0 : Blk (w.alloc (.cells #[.int .i64 P, .slice A n c] 29)) w.heap.size 29 #[.int .i64 P, .slice A n c] := Blk.new _ _ _
  have hB1 := hB0.alloc (by simp) (.cells #[] 22)
  have k1 := k0.alloc (.cells #[] 22)
  have hM1 : MkII w ((w.alloc (.cells #[.int .i64 P, .slice A n c] 29)).alloc (.cells #[] 22)) (some ⟨w.heap.size + 1, 0, none⟩) 0 0 [] := by
    have := MkII.empty hB0
    simpa using this
  clear k0 hB0
  obtain ⟨q0, q1⟩ := k1.two
  have hmk := make_i (P := Tryz.prog) 22 2 Tryz.underlying22 info_i n (by omega)
  go_enter Tryz.func21, Tryz.ntmps21
  go_wp2
  obtain ⟨w1, hw1⟩ : ∃ W, W = (w.alloc (.cells #[.int .i64 P, .slice A n c] 29)).alloc (.cells #[] 22) := ⟨_, rfl⟩
  rw [← hw1] at hM1 k1 ⊢
  clear hw1 hB1 q0 q1
  go_loopw [5, 6] (fun out i wr => ∃ (k : Nat) (A' : Option Addr) (c' : Nat), k ≤ n ∧ i = .int .i64 k ∧ out = .slice A' k c' ∧ MkII w wr A' k c' (tab k fun k => sandL P sq n xs (unitRow n k)) ∧ Blk wr w.heap.size 29 #[.int .i64 P, .slice A n c]) (fun _ i _ => n - (intOf i).toNat)
  case atStart => exact ⟨0, _, _, by omega, rfl, rfl, by simpa [tab] using hM1, k1⟩
  case round =>
    obtain ⟨k, A', c', hk, rfl, rfl, hM, k4⟩ := hrel
    clear hM1 k1
    obtain ⟨q0, q1⟩ := k4.two
    by_cases hlt : k < n
    · have hm1 := Mk.made (E := 2) (n := n) (z := .int .i64 0) (Below.refl wr.heap.size wr) (by simp only [maxLen]; omega)
      rw [ints_replicate] at hm1
      obtain ⟨u1, hc1⟩ := hm1.2.cellI hlt
      have hf1 := hm1.2.frozen_ k
      have hm2 := (hm1.set k (.int .i64 1)).1
      rw [ints_set, World.setCell_alloc_at _ _ _ _ _ rfl] at hm2
      have HRU := Lib.hid (show MkI wr _ (some ⟨wr.heap.size, 0, none⟩) n n (unitRow n k) from hm2)
      have k5 := k4.below hm2.b k4.lt
      have HM := Lib.hid hM
      have HUN := Lib.hid (unitRow_nums hp n k)
      have HA := Lib.hid (ha.below (hM.b.trans (hm2.b.mono hM.b.size)))
      have HX := Lib.hid (hx.below (hM.b.trans (hm2.b.mono hM.b.size)))
      have HSQ := Lib.hid hs
      have HXS := Lib.hid hxs
      have HPP := Lib.hid HP
      have HBW := Lib.hid hm2.b
      have hcall := l07Sandwich_any P A n c sq _ _ xs _ n (unitRow n k) _ hp hp2 hn HA.out HSQ.out HX.out HXS.out hcx HRU.out.rd HUN.out (Nat.le_refl _) HPP.out hpos
      obtain ⟨q2, q3⟩ := k5.two
      clear hM hm1 hm2
      go_wp2_with fail
      refine hcall.mono ?_
      rintro e w5 ⟨A5, c5, rfl, hM5⟩
      have hM5' := hM5.after HBW.out
      have k6 := k5.below hM5.b k5.lt
      clear hcall hc1 hf1 q0 q1 q2 q3
      go_wp2_with (at_builtin; refine wpList_appRowG w wr _ rfl _ _ rfl A' k c' _ A5 n c5 _ HM.out hM5' (by omega) rfl ?_ ?_; (go_simp); intro A20 c20 w20 hM20 hg20 hat20)
      have k7 := k6.grown hg20 ((HM.out.below hM5'.b).ne_blk k6 (by decide))
      clear k6 hat20 hg20
      go_roundw
      case rel => exact ⟨k + 1, A20, c20, by omega, by go_num, rfl, by rw [tab_succ]; exact hM20, k7⟩
      case measure => simp [intOf]; omega
    · obtain rfl : k = n := by omega
      have HM := Lib.hid hM
      have htr := l02Turn_any P A' k c' (scolsL P sq k xs) k wr h0 (by omega) (by omega) hM.rd (scolsL_tab hp sq k xs)
      have HLK : Hid (vmatL P sq k xs = transL (scolsL P sq k xs)) := Lib.hid rfl
      clear hM
      go_wp2_with fail
      refine htr.mono ?_
      rintro e w5 ⟨A5, c5, rfl, hM5⟩
      go_wp2
      go_ret
      rw [HLK.out]
      exact ⟨_, _, rfl, hM5.after HM.out.b⟩
set_option maxHeartbeats 1600000 in
set_option maxRecDepth 8000 in
theorem MatrixOfVersor_any (P : Int) (A : Option Addr) (n c : Nat) (sq : List Int) (X : Option Addr) (m cx : Nat) (xs : List Int) (w : World) (hn : n ≤ 1048576) (hm : m ≤ 1048576) (ha : Rd w A n (ints sq)) (hx : Rd w X m (ints xs)) (hcx : m ≤ cx) :
    Calls Tryz.prog 9 #[.agg #[.int .i64 P, .slice A n c], .slice X m cx] w fun e w' => ∃ (A' : Option Addr) (k c' : Nat), e = .returned (.tuple #[.slice A' k c', .int .i64 (movR P sq xs).2]) ∧ MkII w w' A' k c' (movR P sq xs).1 := by
  have hB0 : Below w.heap.size w (w.alloc (.cells #[.int .i64 P, .slice A n c] 29)) := (Below.refl _ _).alloc (Nat.le_refl _) _
  have k0 : Blk (w.alloc (.cells #[.int .i64 P, .slice A n c] 29)) w.heap.size 29 #[.int .i64 P, .slice A n c] := Blk.new _ _ _
  have hBx : Below w.heap.size w ((w.alloc (.cells #[.int .i64 P, .slice A n c] 29)).alloc (.cells #[.slice X m cx] 22)) := hB0.alloc (by simp) _
  have hB1 : Below w.heap.size w (((w.alloc (.cells #[.int .i64 P, .slice A n c] 29)).alloc (.cells #[.slice X m cx] 22)).alloc (.cells #[.slice X m cx] 22)) := hBx.alloc (by simp; omega) _
  have k1 : Blk (((w.alloc (.cells #[.int .i64 P, .slice A n c] 29)).alloc (.cells #[.slice X m cx] 22)).alloc (.cells #[.slice X m cx] 22)) w.heap.size 29 #[.int .i64 P, .slice A n c] := (k0.alloc _).alloc _
  have kx : Blk (((w.alloc (.cells #[.int .i64 P, .slice A n c] 29)).alloc (.cells #[.slice X m cx] 22)).alloc (.cells #[.slice X m cx] 22)) (w.heap.size + 1) 22 #[.slice X m cx] := Blk.alloc (Blk.newAt3 (by simp)) _
  have hreg := checkVersors_any P A (some ⟨w.heap.size + 2, 0, none⟩) none n c 1 1 0 0 sq [xs] [] (((w.alloc (.cells #[.int .i64 P, .slice A n c] 29)).alloc (.cells #[.slice X m cx] 22)).alloc (.cells #[.slice X m cx] 22)) hn (by omega) (by omega) (ha.below hB1) (rdII_one' (Blk.newAt3 (by simp)) (hx.below hB1) hcx) (all_one (by rw [hx.lenI]; exact hm)) (RdII.nil _ _) (by simp)
  rw [codeVs_nil] at hreg
  obtain ⟨r, hr⟩ : ∃ r, r = codeR P sq [xs] := ⟨_, rfl⟩
  have HR := Lib.hid hr
  by_cases hr0 : r = 0
  · have hcM := (codeR_zero (hr.symm.trans hr0)).1
    obtain ⟨HP, hp, hp2, hd1, hd2, hs, hms⟩ := codeM_spec hcM
    have hxl := hx.lenI
    have hsl := ha.lenI
    obtain ⟨hl1, hxs⟩ := hms xs (by simp)
    have hn6 : n ≤ 6 := by omega
    have hn0 : 0 < n := by omega
    have hmn : m = pw n := by rw [← hxl, hl1, hsl]
    subst hmn
    have HSL := Lib.hid hsl
    have HS := Lib.hid hs
    have HXS := Lib.hid hxs
    clear hxl hsl hms hl1 hd1 hd2 hcM hs hxs
    have HR0 := Lib.hid hr0
    have b0 := code_eq hr0
    clear hr hr0
    cases hv : versB P sq n xs
    all_goals
      have hcv := codeVr_eq (P := P) (sq := sq) (xs := xs) (by rw [← HR.out]; exact HR0.out)
      rw [HSL.out, hv] at hcv
      have HCV := Lib.hid hcv
      have HV := Lib.hid hv
      clear hv hcv
      go_enter Tryz.func9, Tryz.ntmps9
      go_wp2_with fail
      refine hreg.mono ?_
      rintro e w2 ⟨rfl, hb2⟩
      rw [← HR.out]
      have hB2 := hB1.trans (hb2.mono hB1.size)
      have k2 := k1.below hb2 k1.lt
      have kx2 := kx.below hb2 kx.lt
      obtain ⟨q0, q1⟩ := k2.two
      have qx := kx2.cell 0
      simp only [List.getElem?_toArray, List.getElem?_cons_zero] at qx
      clear k1 k0 kx hB0 hBx hB1 hb2
      go_wp2_with fail
      refine (isVersor_any P A n c sq X cx xs _ hp hp2 hn6 (ha.below hB2) HS.out (hx.below hB2) HXS.out hcx).mono ?_
      rintro e w3 ⟨rfl, hb3⟩
      rw [HV.out]
      have hB3 := hB2.trans (hb3.mono hB2.size)
      have k3 := k2.below hb3 k2.lt
      have kx3 := kx2.below hb3 kx2.lt
      clear q0 q1 qx
      obtain ⟨q0, q1⟩ := k3.two
      have HMV := Lib.hid (matrixBy_any 25 ⟨w.heap.size, 0, none⟩ ⟨w.heap.size + 1, 0, none⟩ (fun k => sandL P sq n xs (unitRow n k)) (fun _ _ => by rfl) P A n c w3 hp hn6 hn0 (fun _ _ => ⟨sandL_lens _ _ _ _ _, sandL_nums hp _ _ _ _⟩)
        (fun k w' Y cy _ hb hy hcy => movCol_any w.heap.size (w.heap.size + 1) P A n c sq X cx xs Y cy (unitRow n k) w' hp hp2 hn6 ((ha.below hB3).below hb) HS.out ((hx.below hB3).below hb) HXS.out hcx hy (unitRow_nums hp n k) hcy (k3.below hb k3.lt) (kx3.below hb kx3.lt)))
      go_wp2_with fail
    · go_ret2
      refine ⟨none, 0, 0, ret_tupS ?_, ?_⟩
      · unfold movR; rw [HCV.out]; rfl
      · unfold movR; rw [HCV.out]
        exact MkII.nil hB3
    · refine HMV.out.mono ?_
      rintro e w4 ⟨A4, c4, rfl, hM⟩
      go_wp2
      go_ret2
      exact ⟨_, _, _, ret_tupS (by unfold movR; rw [HCV.out]; rfl), by unfold movR; rw [HCV.out, HSL.out]; exact hM.after hB3⟩
  · have HR0 := Lib.hid hr0
    have b0 := code_ne hr0
    clear hr hr0
    go_enter Tryz.func9, Tryz.ntmps9
    go_wp2_with fail
    refine hreg.mono ?_
    rintro e w2 ⟨rfl, hb2⟩
    rw [← HR.out]
    have hB2 := hB1.trans (hb2.mono hB1.size)
    have k2 := k1.below hb2 k1.lt
    obtain ⟨q0, q1⟩ := k2.two
    clear k1 hB1 hb2
    go_wp2
    go_ret2
    have hv : codeVr P sq xs = r := by rw [codeVr_ne (by rw [← HR.out]; exact HR0.out), HR.out]
    refine ⟨none, 0, 0, ret_tupS ?_, ?_⟩
    · unfold movR; rw [hv, if_neg HR0.out]
    · unfold movR; rw [hv, if_neg HR0.out]
      exact MkII.nil hB2
set_option maxHeartbeats 1600000 in
set_option maxRecDepth 8000 in
theorem specMatrixOfVersor_any (P : Int) (A : Option Addr) (n c : Nat) (sq : List Int) (X : Option Addr) (m cx : Nat) (xs : List Int) (w : World) (hn : n ≤ 1048576) (hm : m ≤ 1048576) (ha : Rd w A n (ints sq)) (hx : Rd w X m (ints xs)) (hcx : m ≤ cx) :
    Calls Tryz.prog 6 #[.agg #[.int .i64 P, .slice A n c], .slice X m cx] w fun e w' => ∃ (A' : Option Addr) (k c' : Nat), e = .returned (.tuple #[.slice A' k c', .int .i64 (movR P sq xs).2]) ∧ MkII w w' A' k c' (movR P sq xs).1 := by
  have hB0 : Below w.heap.size w (w.alloc (.cells #[.int .i64 P, .slice A n c] 29)) := (Below.refl _ _).alloc (Nat.le_refl _) _
  have k0 : Blk (w.alloc (.cells #[.int .i64 P, .slice A n c] 29)) w.heap.size 29 #[.int .i64 P, .slice A n c] := Blk.new _ _ _
  have hreg := l07Code_any P A n c sq X m cx xs _ hn hm (ha.below hB0) (hx.below hB0) hcx
  obtain ⟨r, hr⟩ : ∃ r, r = codeVr P sq xs := ⟨_, rfl⟩
  have HR := Lib.hid hr
  by_cases hr0 : r = 0
  · obtain ⟨hcr, hvers⟩ := codeVr_zero (hr.symm.trans hr0)
    have hcM := (codeR_zero hcr).1
    obtain ⟨HP, hp, hp2, hd1, hd2, hs, hms⟩ := codeM_spec hcM
    have hxl := hx.lenI
    have hsl := ha.lenI
    obtain ⟨hl1, hxs⟩ := hms xs (by simp)
    have hn6 : n ≤ 6 := by omega
    have hn0 : 0 < n := by omega
    have hmn : m = pw n := by rw [← hxl, hl1, hsl]
    subst hmn
    have HSL := Lib.hid hsl
    have HS := Lib.hid hs
    have HXS := Lib.hid hxs
    clear hxl hsl hms hl1 hd1 hd2 hcM hs hxs
    rw [HSL.out] at hvers
    have HV := Lib.hid hvers
    have hpos := versB_norm hp hvers
    have HR0 := Lib.hid hr0
    have b0 := code_eq hr0
    clear hr hr0 hcr hvers
    go_enter Tryz.func6, Tryz.ntmps6
    go_wp2_with fail
    refine hreg.mono ?_
    rintro e w2 ⟨rfl, hb2⟩
    rw [← HR.out]
    have hB2 := hB0.trans (hb2.mono (by simp))
    have k2 := k0.below hb2 k0.lt
    obtain ⟨q0, q1⟩ := k2.two
    clear k0 hB0 hb2
    go_wp2_with fail
    refine (l08Matrix_any P A n c sq X cx xs _ hp hp2 hn6 hn0 (ha.below hB2) HS.out (hx.below hB2) HXS.out hcx HP hpos).mono ?_
    rintro e w3 ⟨A3, c3, rfl, hM⟩
    go_wp2
    go_ret2
    exact ⟨_, _, _, ret_tupS (by unfold movR; rw [← HR.out, if_pos HR0.out]), by unfold movR; rw [← HR.out, if_pos HR0.out, HSL.out]; exact hM.after hB2⟩
  · have HR0 := Lib.hid hr0
    have b0 := code_ne hr0
    clear hr hr0
    go_enter Tryz.func6, Tryz.ntmps6
    go_wp2_with fail
    refine hreg.mono ?_
    rintro e w2 ⟨rfl, hb2⟩
    rw [← HR.out]
    have hB2 := hB0.trans (hb2.mono (by simp))
    have k2 := k0.below hb2 k0.lt
    obtain ⟨q0, q1⟩ := k2.two
    clear k0 hB0 hb2
    go_wp2
    go_ret2
    refine ⟨none, 0, 0, ret_tupS ?_, ?_⟩
    · unfold movR; rw [← HR.out, if_neg HR0.out]
    · unfold movR; rw [← HR.out, if_neg HR0.out]
      exact MkII.nil hB2
end Go.Proofs.YtklnkhkfcalndaaGreat
