/-
  LawFnSandwiches: part 4 of the texts that the proof needs. No condition.
-/
import Derived.Test.YtggigolkncckoaaGreatP3
namespace Go.Proofs.YtggigolkncckoaaGreat
open Go.RowKit
/-- The spinor norm. -/
def nrmL (P : Int) (sq xs : List Int) : Int := (mulL P sq xs (revL P xs)).getD 0 0
theorem nrmL_small {P : Int} (hp : 2 ≤ P) (sq xs : List Int) : 0 ≤ nrmL P sq xs ∧ nrmL P sq xs < P := (mulL_nums (by omega) sq xs _).getD (by omega) 0
/-- The inverse of a versor. -/
def vinvL (P : Int) (sq xs : List Int) : List Int := scaleL P (revL P xs) (invF P (nrmL P sq xs))
theorem vinvL_nums {P : Int} (hp : 2 ≤ P) (sq xs : List Int) : NumsL P (vinvL P sq xs) := scaleL_nums (by omega) _ _
/-- The sandwich of a versor. -/
def sandL (P : Int) (sq : List Int) (n : Nat) (xs v : List Int) : List Int := partL n (mulL P sq (mulL P sq (invoL P xs) (vecTo n v n)) (vinvL P sq xs))
theorem sandL_nums {P : Int} (hp : 2 ≤ P) (sq : List Int) (n : Nat) (xs v : List Int) : NumsL P (sandL P sq n xs v) := partL_nums (by omega) n _ (mulL_nums (by omega) sq _ _)
set_option maxHeartbeats 1600000 in
set_option maxRecDepth 8000 in
theorem spinorNorm_any (P : Int) (A : Option Addr) (n c : Nat) (sq : List Int) (X : Option Addr) (cx : Nat) (xs : List Int) (w : World) (hp : 2 ≤ P) (hp2 : P ≤ 13) (hn : n ≤ 6) (ha : Rd w A n (ints sq)) (hs : NumsL P sq) (hx : Rd w X (pw n) (ints xs)) (hxs : NumsL P xs) (hcx : pw n ≤ cx) :
    Calls Tryz.prog 171 #[.agg #[.int .i64 P, .slice A n c], .slice X (pw n) cx] w fun e w' => e = .returned (.int .i64 (nrmL P sq xs)) ∧ Below w.heap.size w w' := by
  have hB0 : Below w.heap.size w (w.alloc (.cells #[.int .i64 P, .slice A n c] 26)) := (Below.refl _ _).alloc (Nat.le_refl _) _
  have k0 : Blk (w.alloc (.cells #[.int .i64 P, .slice A n c] 26)) w.heap.size 26 #[.int .i64 P, .slice A n c] := Blk.new _ _ _
  have HPW : pw n ≤ 65536 := Nat.le_trans (pw_le (show n ≤ 10 by omega)) (by decide)
  have HPW64 : pw n ≤ 64 := pw_le hn
  go_enter Tryz.func171, Tryz.ntmps171
  go_wp2
  refine wp_obs 10 [[], [], [], [], [2, 3], [1, 2, 3, 4], [0, 1, 2, 3, 4, 5], [0, 1, 2, 3, 4, 5, 6], [0, 1, 2, 3, 4, 5, 6, 7], [0, 1, 2, 3, 4, 5, 6, 7, 8]] [VIs (.agg #[.int .i64 P, .slice A n c]), VIs (.slice X (pw n) cx), VIs (.agg #[.int .i64 P, .slice A n c]), VIs (.slice X (pw n) cx), VSl w (pw n) (revL P xs), VRow 2 [xs, (revL P xs)], VSl w (pw n) (timesL P sq n [xs, (revL P xs)]), VCell (.int .i64 ((timesL P sq n [xs, (revL P xs)]).getD 0 0)), VIs (.int .i64 ((timesL P sq n [xs, (revL P xs)]).getD 0 0)), VIs (.int .i64 ((timesL P sq n [xs, (revL P xs)]).getD 0 0))] (fun w' => Blk w' w.heap.size 26 #[.int .i64 P, .slice A n c] ∧ Below w.heap.size w w') (by kernel_rfl) (by kernel_rfl) (fun _ _ h hb => ⟨h.1.below hb h.1.lt, h.2.trans (hb.mono h.2.size)⟩) (⟨k0.drew, hB0.drew⟩) (fun x => ?_)
  refine obs_step (Eq.trans (by simp only [List.getElem?_toArray, List.getElem?_cons_zero]; exact rfl) rfl) rfl (fun w' hS hV K hK => ?_) ?_
  · obtain ⟨q0, q1⟩ := hS.1.two
    go_simp
    exact hK.out _ _ _ rfl rfl rfl (Below.refl _ _)
  simp only [List.setIfInBounds_toArray, List.set_cons_zero, List.set_cons_succ]
  refine obs_step (Eq.trans (by simp only [List.getElem?_toArray, List.getElem?_cons_succ, List.getElem?_cons_zero]; exact rfl) rfl) rfl (fun w' hS hV K hK => ?_) ?_
  · obtain ⟨q0, q1⟩ := hS.1.two
    go_simp
    exact hK.out _ _ _ rfl rfl rfl (Below.refl _ _)
  simp only [List.setIfInBounds_toArray, List.set_cons_zero, List.set_cons_succ]
  refine obs_step (Eq.trans (by simp only [List.getElem?_toArray, List.getElem?_cons_succ, List.getElem?_cons_zero]; exact rfl) rfl) rfl (fun w' hS hV K hK => ?_) ?_
  · obtain ⟨q0, q1⟩ := hS.1.two
    go_simp
    exact hK.out _ _ _ rfl rfl rfl (Below.refl _ _)
  simp only [List.setIfInBounds_toArray, List.set_cons_zero, List.set_cons_succ]
  refine obs_step (Eq.trans (by simp only [List.getElem?_toArray, List.getElem?_cons_succ, List.getElem?_cons_zero]; exact rfl) rfl) rfl (fun w' hS hV K hK => ?_) ?_
  · obtain ⟨q0, q1⟩ := hS.1.two
    go_simp
    exact hK.out _ _ _ rfl rfl rfl (Below.refl _ _)
  simp only [List.setIfInBounds_toArray, List.set_cons_zero, List.set_cons_succ]
  refine obs_step (Eq.trans (by simp only [List.getElem?_toArray, List.getElem?_cons_succ, List.getElem?_cons_zero]; exact rfl) rfl) rfl (fun w' hS hV K hK => ?_) ?_
  · simp only [List.mem_cons, List.not_mem_nil, or_false, forall_eq_or_imp, forall_eq, List.getD_cons_succ, List.getD_cons_zero, VIs, VSl, VRow, VAny, VCell] at hV
    obtain ⟨e2, e3⟩ := hV
    obtain ⟨q0, q1⟩ := hS.1.two
    go_simp
    refine (reverse_any P A n c _ (pw n) _ xs _ hp hp2 HPW64 (hx.below hS.2) hxs).mono ?_
    rintro e w1 ⟨A2, c2, rfl, hM⟩
    exact hK.out _ _ _ rfl rfl ⟨_, _, rfl, hM.after hS.2⟩ hM.b
  simp only [List.setIfInBounds_toArray, List.set_cons_zero, List.set_cons_succ]
  refine obs_step (Eq.trans (by simp only [List.getElem?_toArray, List.getElem?_cons_succ, List.getElem?_cons_zero]; exact rfl) rfl) rfl (fun w' hS hV K hK => ?_) ?_
  · simp only [List.mem_cons, List.not_mem_nil, or_false, forall_eq_or_imp, forall_eq, List.getD_cons_succ, List.getD_cons_zero, VIs, VSl, VRow, VAny, VCell] at hV
    obtain ⟨e1, e2, e3, ⟨A4, c4, e4, h4⟩⟩ := hV
    obtain ⟨q0, q1⟩ := hS.1.two
    go_simp
    exact hK.out _ _ _ rfl rfl ⟨_, _, rfl, rdII_two (Blk.new _ _ _) (Rd.below ((hx.below hS.2)) ((Below.refl _ _).alloc (Nat.le_refl _) _)) (Rd.below (h4.rd) ((Below.refl _ _).alloc (Nat.le_refl _) _)) (hcx) (h4.2.cap)⟩ ((Below.refl _ _).alloc (Nat.le_refl _) _)
  simp only [List.setIfInBounds_toArray, List.set_cons_zero, List.set_cons_succ]
  refine obs_step (Eq.trans (by simp only [List.getElem?_toArray, List.getElem?_cons_succ, List.getElem?_cons_zero]; exact rfl) rfl) rfl (fun w' hS hV K hK => ?_) ?_
  · simp only [List.mem_cons, List.not_mem_nil, or_false, forall_eq_or_imp, forall_eq, List.getD_cons_succ, List.getD_cons_zero, VIs, VSl, VRow, VAny, VCell] at hV
    obtain ⟨e0, e1, e2, e3, ⟨A4, c4, e4, h4⟩, ⟨A5, c5, e5, h5⟩⟩ := hV
    obtain ⟨q0, q1⟩ := hS.1.two
    go_simp
    refine (times_any P A n c sq _ 2 _ [xs, (revL P xs)] _ hp hp2 hn (by omega) (ha.below hS.2) hs h5 (all_two ⟨hxs, Rd.lenI ((hx.below hS.2))⟩ ⟨(sgnL_nums (by omega) revT hxs), Rd.lenI (h4.rd)⟩)).mono ?_
    rintro e w1 ⟨A2, c2, rfl, hM⟩
    exact hK.out _ _ _ rfl rfl ⟨_, _, rfl, hM.after hS.2⟩ hM.b
  simp only [List.setIfInBounds_toArray, List.set_cons_zero, List.set_cons_succ]
  refine obs_step (Eq.trans (by simp only [List.getElem?_toArray, List.getElem?_cons_succ, List.getElem?_cons_zero]; exact rfl) rfl) rfl (fun w' hS hV K hK => ?_) ?_
  · simp only [List.mem_cons, List.not_mem_nil, or_false, forall_eq_or_imp, forall_eq, List.getD_cons_succ, List.getD_cons_zero, VIs, VSl, VRow, VAny, VCell] at hV
    obtain ⟨e0, e1, e2, e3, ⟨A4, c4, e4, h4⟩, ⟨A5, c5, e5, h5⟩, ⟨A6, c6, e6, h6⟩⟩ := hV
    obtain ⟨q0, q1⟩ := hS.1.two
    rcases h6.2.form with ⟨_, hz⟩ | ⟨g6, hg6, _, _⟩
    · exact absurd hz (by have := pw_pos n; omega)
    subst hg6
    obtain ⟨hcell, _⟩ := mkI_at h6 (pw_pos n)
    have hposI : 0 < pw n := pw_pos n
    go_simp
    exact hK.out _ _ _ rfl rfl ⟨_, rfl, hcell⟩ (Below.refl _ _)
  simp only [List.setIfInBounds_toArray, List.set_cons_zero, List.set_cons_succ]
  refine obs_step (Eq.trans (by simp only [List.getElem?_toArray, List.getElem?_cons_succ, List.getElem?_cons_zero]; exact rfl) rfl) rfl (fun w' hS hV K hK => ?_) ?_
  · simp only [List.mem_cons, List.not_mem_nil, or_false, forall_eq_or_imp, forall_eq, List.getD_cons_succ, List.getD_cons_zero, VIs, VSl, VRow, VAny, VCell] at hV
    obtain ⟨e0, e1, e2, e3, ⟨A4, c4, e4, h4⟩, ⟨A5, c5, e5, h5⟩, ⟨A6, c6, e6, h6⟩, ⟨p7, e7, h7⟩⟩ := hV
    obtain ⟨q0, q1⟩ := hS.1.two
    go_simp
    exact hK.out _ _ _ rfl rfl rfl (Below.refl _ _)
  simp only [List.setIfInBounds_toArray, List.set_cons_zero, List.set_cons_succ]
  refine obs_step (Eq.trans (by simp only [List.getElem?_toArray, List.getElem?_cons_succ, List.getElem?_cons_zero]; exact rfl) rfl) rfl (fun w' hS hV K hK => ?_) ?_
  · simp only [List.mem_cons, List.not_mem_nil, or_false, forall_eq_or_imp, forall_eq, List.getD_cons_succ, List.getD_cons_zero, VIs, VSl, VRow, VAny, VCell] at hV
    obtain ⟨e0, e1, e2, e3, ⟨A4, c4, e4, h4⟩, ⟨A5, c5, e5, h5⟩, ⟨A6, c6, e6, h6⟩, ⟨p7, e7, h7⟩, e8⟩ := hV
    obtain ⟨q0, q1⟩ := hS.1.two
    go_simp
    exact hK.out _ _ _ rfl rfl rfl (Below.refl _ _)
  simp only [List.setIfInBounds_toArray, List.set_cons_zero, List.set_cons_succ]
  refine fun w' hS hV => ?_
  have hV := fun i hi => hV i (List.mem_range.1 hi)
  simp only [List.range, List.range.loop, List.mem_cons, List.not_mem_nil, or_false, forall_eq_or_imp, forall_eq, List.getD_cons_succ, List.getD_cons_zero, VIs, VSl, VRow, VAny, VCell] at hV
  obtain ⟨e0, e1, e2, e3, ⟨A4, c4, e4, h4⟩, ⟨A5, c5, e5, h5⟩, ⟨A6, c6, e6, h6⟩, ⟨p7, e7, h7⟩, e8, e9⟩ := hV
  simp only [e0, e1, e2, e3, e4, e5, e6, e7, e8, e9]
  clear e0 e1 e2 e3 e4 e5 e6 e7 e8 e9
  refine wpAny_done (by kernel_rfl) ?_ _
  go_wp2
  go_ret
  exact ⟨ret_int (by unfold nrmL; rw [timesL_two P sq n _ _ hx.lenI hxs, List.getD_eq_getElem?_getD]), hS.2⟩
set_option maxHeartbeats 1600000 in
set_option maxRecDepth 8000 in
theorem l07Norm_any (P : Int) (A : Option Addr) (n c : Nat) (sq : List Int) (X : Option Addr) (cx : Nat) (xs : List Int) (w : World) (hp : 2 ≤ P) (hp2 : P ≤ 13) (hn : n ≤ 6) (ha : Rd w A n (ints sq)) (hs : NumsL P sq) (hx : Rd w X (pw n) (ints xs)) (hxs : NumsL P xs) (_hcx : pw n ≤ cx) :
    Calls Tryz.prog 312 #[.agg #[.int .i64 P, .slice A n c], .slice X (pw n) cx] w fun e w' => e = .returned (.int .i64 (nrmL P sq xs)) ∧ Below w.heap.size w w' := by
  have hB0 : Below w.heap.size w (w.alloc (.cells #[.int .i64 P, .slice A n c] 26)) := (Below.refl _ _).alloc (Nat.le_refl _) _
  have k0 : Blk (w.alloc (.cells #[.int .i64 P, .slice A n c] 26)) w.heap.size 26 #[.int .i64 P, .slice A n c] := Blk.new _ _ _
  have HPW : pw n ≤ 65536 := Nat.le_trans (pw_le (show n ≤ 10 by omega)) (by decide)
  have HPW64 : pw n ≤ 64 := pw_le hn
  go_enter Tryz.func312, Tryz.ntmps312
  go_wp2
  refine wp_obs 9 [[], [], [], [], [2, 3], [0, 1, 2, 3, 4], [0, 1, 2, 3, 4, 5], [0, 1, 2, 3, 4, 5, 6], [0, 1, 2, 3, 4, 5, 6, 7]] [VIs (.agg #[.int .i64 P, .slice A n c]), VIs (.slice X (pw n) cx), VIs (.agg #[.int .i64 P, .slice A n c]), VIs (.slice X (pw n) cx), VSl w (pw n) (revL P xs), VSl w (pw n) (mulL P sq xs (revL P xs)), VCell (.int .i64 ((mulL P sq xs (revL P xs)).getD 0 0)), VIs (.int .i64 ((mulL P sq xs (revL P xs)).getD 0 0)), VIs (.int .i64 ((mulL P sq xs (revL P xs)).getD 0 0))] (fun w' => Blk w' w.heap.size 26 #[.int .i64 P, .slice A n c] ∧ Below w.heap.size w w') (by kernel_rfl) (by kernel_rfl) (fun _ _ h hb => ⟨h.1.below hb h.1.lt, h.2.trans (hb.mono h.2.size)⟩) (⟨k0.drew, hB0.drew⟩) (fun x => ?_)
  refine obs_step (Eq.trans (by simp only [List.getElem?_toArray, List.getElem?_cons_zero]; exact rfl) rfl) rfl (fun w' hS hV K hK => ?_) ?_
  · obtain ⟨q0, q1⟩ := hS.1.two
    go_simp
    exact hK.out _ _ _ rfl rfl rfl (Below.refl _ _)
  simp only [List.setIfInBounds_toArray, List.set_cons_zero, List.set_cons_succ]
  refine obs_step (Eq.trans (by simp only [List.getElem?_toArray, List.getElem?_cons_succ, List.getElem?_cons_zero]; exact rfl) rfl) rfl (fun w' hS hV K hK => ?_) ?_
  · obtain ⟨q0, q1⟩ := hS.1.two
    go_simp
    exact hK.out _ _ _ rfl rfl rfl (Below.refl _ _)
  simp only [List.setIfInBounds_toArray, List.set_cons_zero, List.set_cons_succ]
  refine obs_step (Eq.trans (by simp only [List.getElem?_toArray, List.getElem?_cons_succ, List.getElem?_cons_zero]; exact rfl) rfl) rfl (fun w' hS hV K hK => ?_) ?_
  · obtain ⟨q0, q1⟩ := hS.1.two
    go_simp
    exact hK.out _ _ _ rfl rfl rfl (Below.refl _ _)
  simp only [List.setIfInBounds_toArray, List.set_cons_zero, List.set_cons_succ]
  refine obs_step (Eq.trans (by simp only [List.getElem?_toArray, List.getElem?_cons_succ, List.getElem?_cons_zero]; exact rfl) rfl) rfl (fun w' hS hV K hK => ?_) ?_
  · obtain ⟨q0, q1⟩ := hS.1.two
    go_simp
    exact hK.out _ _ _ rfl rfl rfl (Below.refl _ _)
  simp only [List.setIfInBounds_toArray, List.set_cons_zero, List.set_cons_succ]
  refine obs_step (Eq.trans (by simp only [List.getElem?_toArray, List.getElem?_cons_succ, List.getElem?_cons_zero]; exact rfl) rfl) rfl (fun w' hS hV K hK => ?_) ?_
  · simp only [List.mem_cons, List.not_mem_nil, or_false, forall_eq_or_imp, forall_eq, List.getD_cons_succ, List.getD_cons_zero, VIs, VSl, VAny, VCell] at hV
    obtain ⟨e2, e3⟩ := hV
    obtain ⟨q0, q1⟩ := hS.1.two
    go_simp
    refine (l04Reverse_any P A n c _ (pw n) _ xs _ hp hp2 HPW64 (hx.below hS.2) hxs).mono ?_
    rintro e w1 ⟨A2, c2, rfl, hM⟩
    exact hK.out _ _ _ rfl rfl ⟨_, _, rfl, hM.after hS.2⟩ hM.b
  simp only [List.setIfInBounds_toArray, List.set_cons_zero, List.set_cons_succ]
  refine obs_step (Eq.trans (by simp only [List.getElem?_toArray, List.getElem?_cons_succ, List.getElem?_cons_zero]; exact rfl) rfl) rfl (fun w' hS hV K hK => ?_) ?_
  · simp only [List.mem_cons, List.not_mem_nil, or_false, forall_eq_or_imp, forall_eq, List.getD_cons_succ, List.getD_cons_zero, VIs, VSl, VAny, VCell] at hV
    obtain ⟨e0, e1, e2, e3, ⟨A4, c4, e4, h4⟩⟩ := hV
    obtain ⟨q0, q1⟩ := hS.1.two
    go_simp
    refine (l04Times_any P A n c sq _ _ xs _ _ (revL P xs) _ hp hp2 hn (ha.below hS.2) hs (hx.below hS.2) hxs h4.rd (sgnL_nums (by omega) revT hxs)).mono ?_
    rintro e w1 ⟨A2, c2, rfl, hM⟩
    exact hK.out _ _ _ rfl rfl ⟨_, _, rfl, hM.after hS.2⟩ hM.b
  simp only [List.setIfInBounds_toArray, List.set_cons_zero, List.set_cons_succ]
  refine obs_step (Eq.trans (by simp only [List.getElem?_toArray, List.getElem?_cons_succ, List.getElem?_cons_zero]; exact rfl) rfl) rfl (fun w' hS hV K hK => ?_) ?_
  · simp only [List.mem_cons, List.not_mem_nil, or_false, forall_eq_or_imp, forall_eq, List.getD_cons_succ, List.getD_cons_zero, VIs, VSl, VAny, VCell] at hV
    obtain ⟨e0, e1, e2, e3, ⟨A4, c4, e4, h4⟩, ⟨A5, c5, e5, h5⟩⟩ := hV
    obtain ⟨q0, q1⟩ := hS.1.two
    rcases h5.2.form with ⟨_, hz⟩ | ⟨g5, hg5, _, _⟩
    · exact absurd hz (by have := pw_pos n; omega)
    subst hg5
    obtain ⟨hcell, _⟩ := mkI_at h5 (pw_pos n)
    have hposI : 0 < pw n := pw_pos n
    go_simp
    exact hK.out _ _ _ rfl rfl ⟨_, rfl, hcell⟩ (Below.refl _ _)
  simp only [List.setIfInBounds_toArray, List.set_cons_zero, List.set_cons_succ]
  refine obs_step (Eq.trans (by simp only [List.getElem?_toArray, List.getElem?_cons_succ, List.getElem?_cons_zero]; exact rfl) rfl) rfl (fun w' hS hV K hK => ?_) ?_
  · simp only [List.mem_cons, List.not_mem_nil, or_false, forall_eq_or_imp, forall_eq, List.getD_cons_succ, List.getD_cons_zero, VIs, VSl, VAny, VCell] at hV
    obtain ⟨e0, e1, e2, e3, ⟨A4, c4, e4, h4⟩, ⟨A5, c5, e5, h5⟩, ⟨p6, e6, h6⟩⟩ := hV
    obtain ⟨q0, q1⟩ := hS.1.two
    go_simp
    exact hK.out _ _ _ rfl rfl rfl (Below.refl _ _)
  simp only [List.setIfInBounds_toArray, List.set_cons_zero, List.set_cons_succ]
  refine obs_step (Eq.trans (by simp only [List.getElem?_toArray, List.getElem?_cons_succ, List.getElem?_cons_zero]; exact rfl) rfl) rfl (fun w' hS hV K hK => ?_) ?_
  · simp only [List.mem_cons, List.not_mem_nil, or_false, forall_eq_or_imp, forall_eq, List.getD_cons_succ, List.getD_cons_zero, VIs, VSl, VAny, VCell] at hV
    obtain ⟨e0, e1, e2, e3, ⟨A4, c4, e4, h4⟩, ⟨A5, c5, e5, h5⟩, ⟨p6, e6, h6⟩, e7⟩ := hV
    obtain ⟨q0, q1⟩ := hS.1.two
    go_simp
    exact hK.out _ _ _ rfl rfl rfl (Below.refl _ _)
  simp only [List.setIfInBounds_toArray, List.set_cons_zero, List.set_cons_succ]
  refine fun w' hS hV => ?_
  have hV := fun i hi => hV i (List.mem_range.1 hi)
  simp only [List.range, List.range.loop, List.mem_cons, List.not_mem_nil, or_false, forall_eq_or_imp, forall_eq, List.getD_cons_succ, List.getD_cons_zero, VIs, VSl, VAny, VCell] at hV
  obtain ⟨e0, e1, e2, e3, ⟨A4, c4, e4, h4⟩, ⟨A5, c5, e5, h5⟩, ⟨p6, e6, h6⟩, e7, e8⟩ := hV
  simp only [e0, e1, e2, e3, e4, e5, e6, e7, e8]
  clear e0 e1 e2 e3 e4 e5 e6 e7 e8
  refine wpAny_done (by kernel_rfl) ?_ _
  go_wp2
  go_ret
  exact ⟨ret_int (by unfold nrmL; rw [List.getD_eq_getElem?_getD]), hS.2⟩
set_option maxHeartbeats 1600000 in
set_option maxRecDepth 8000 in
theorem versorInverse_any (P : Int) (A : Option Addr) (n c : Nat) (sq : List Int) (X : Option Addr) (cx : Nat) (xs : List Int) (w : World) (hp : 2 ≤ P) (hp2 : P ≤ 13) (hn : n ≤ 6) (ha : Rd w A n (ints sq)) (hs : NumsL P sq) (hx : Rd w X (pw n) (ints xs)) (hxs : NumsL P xs) (hcx : pw n ≤ cx) :
    Calls Tryz.prog 172 #[.agg #[.int .i64 P, .slice A n c], .slice X (pw n) cx] w fun e w' => ∃ A' c', e = .returned (.slice A' (pw n) c') ∧ MkI w w' A' (pw n) c' (vinvL P sq xs) := by
  have hB0 : Below w.heap.size w (w.alloc (.cells #[.int .i64 P, .slice A n c] 26)) := (Below.refl _ _).alloc (Nat.le_refl _) _
  have k0 : Blk (w.alloc (.cells #[.int .i64 P, .slice A n c] 26)) w.heap.size 26 #[.int .i64 P, .slice A n c] := Blk.new _ _ _
  have HPW : pw n ≤ 65536 := Nat.le_trans (pw_le (show n ≤ 10 by omega)) (by decide)
  have HPW64 : pw n ≤ 64 := pw_le hn
  go_enter Tryz.func172, Tryz.ntmps172
  go_wp2
  refine wp_obs 13 [[], [0], [], [], [2, 3], [], [5], [], [], [7, 8], [5, 6, 7, 8, 9], [0, 1, 2, 3, 4, 5, 6, 7, 8, 9, 10], [0, 1, 2, 3, 4, 5, 6, 7, 8, 9, 10, 11]] [VIs (.agg #[.int .i64 P, .slice A n c]), VIs (.int .i64 P), VIs (.agg #[.int .i64 P, .slice A n c]), VIs (.slice X (pw n) cx), VSl w (pw n) (revL P xs), VIs (.agg #[.int .i64 P, .slice A n c]), VIs (.int .i64 P), VIs (.agg #[.int .i64 P, .slice A n c]), VIs (.slice X (pw n) cx), VIs (.int .i64 (nrmL P sq xs)), VIs (.int .i64 (invF P (nrmL P sq xs))), VSl w (pw n) (scaleL P (revL P xs) (invF P (nrmL P sq xs))), VSl w (pw n) (scaleL P (revL P xs) (invF P (nrmL P sq xs)))] (fun w' => Blk w' w.heap.size 26 #[.int .i64 P, .slice A n c] ∧ Below w.heap.size w w') (by kernel_rfl) (by kernel_rfl) (fun _ _ h hb => ⟨h.1.below hb h.1.lt, h.2.trans (hb.mono h.2.size)⟩) (⟨k0.drew, hB0.drew⟩) (fun x => ?_)
  refine obs_step (Eq.trans (by simp only [List.getElem?_toArray, List.getElem?_cons_zero]; exact rfl) rfl) rfl (fun w' hS hV K hK => ?_) ?_
  · obtain ⟨q0, q1⟩ := hS.1.two
    go_simp
    exact hK.out _ _ _ rfl rfl rfl (Below.refl _ _)
  simp only [List.setIfInBounds_toArray, List.set_cons_zero, List.set_cons_succ]
  refine obs_step (Eq.trans (by simp only [List.getElem?_toArray, List.getElem?_cons_succ, List.getElem?_cons_zero]; exact rfl) rfl) rfl (fun w' hS hV K hK => ?_) ?_
  · simp only [List.mem_cons, List.not_mem_nil, or_false, forall_eq, List.getD_cons_succ, List.getD_cons_zero, VIs, VSl, VAny] at hV
    obtain e0 := hV
    obtain ⟨q0, q1⟩ := hS.1.two
    go_simp
    refine (field_any _ _ _ _ _).mono ?_
    rintro e w1 ⟨rfl, hb⟩
    exact hK.out _ _ _ rfl rfl rfl hb
  simp only [List.setIfInBounds_toArray, List.set_cons_zero, List.set_cons_succ]
  refine obs_step (Eq.trans (by simp only [List.getElem?_toArray, List.getElem?_cons_succ, List.getElem?_cons_zero]; exact rfl) rfl) rfl (fun w' hS hV K hK => ?_) ?_
  · obtain ⟨q0, q1⟩ := hS.1.two
    go_simp
    exact hK.out _ _ _ rfl rfl rfl (Below.refl _ _)
  simp only [List.setIfInBounds_toArray, List.set_cons_zero, List.set_cons_succ]
  refine obs_step (Eq.trans (by simp only [List.getElem?_toArray, List.getElem?_cons_succ, List.getElem?_cons_zero]; exact rfl) rfl) rfl (fun w' hS hV K hK => ?_) ?_
  · obtain ⟨q0, q1⟩ := hS.1.two
    go_simp
    exact hK.out _ _ _ rfl rfl rfl (Below.refl _ _)
  simp only [List.setIfInBounds_toArray, List.set_cons_zero, List.set_cons_succ]
  refine obs_step (Eq.trans (by simp only [List.getElem?_toArray, List.getElem?_cons_succ, List.getElem?_cons_zero]; exact rfl) rfl) rfl (fun w' hS hV K hK => ?_) ?_
  · simp only [List.mem_cons, List.not_mem_nil, or_false, forall_eq_or_imp, forall_eq, List.getD_cons_succ, List.getD_cons_zero, VIs, VSl, VAny] at hV
    obtain ⟨e2, e3⟩ := hV
    obtain ⟨q0, q1⟩ := hS.1.two
    go_simp
    refine (reverse_any P A n c _ (pw n) _ xs _ hp hp2 HPW64 (hx.below hS.2) hxs).mono ?_
    rintro e w1 ⟨A2, c2, rfl, hM⟩
    exact hK.out _ _ _ rfl rfl ⟨_, _, rfl, hM.after hS.2⟩ hM.b
  simp only [List.setIfInBounds_toArray, List.set_cons_zero, List.set_cons_succ]
  refine obs_step (Eq.trans (by simp only [List.getElem?_toArray, List.getElem?_cons_succ, List.getElem?_cons_zero]; exact rfl) rfl) rfl (fun w' hS hV K hK => ?_) ?_
  · obtain ⟨q0, q1⟩ := hS.1.two
    go_simp
    exact hK.out _ _ _ rfl rfl rfl (Below.refl _ _)
  simp only [List.setIfInBounds_toArray, List.set_cons_zero, List.set_cons_succ]
  refine obs_step (Eq.trans (by simp only [List.getElem?_toArray, List.getElem?_cons_succ, List.getElem?_cons_zero]; exact rfl) rfl) rfl (fun w' hS hV K hK => ?_) ?_
  · simp only [List.mem_cons, List.not_mem_nil, or_false, forall_eq, List.getD_cons_succ, List.getD_cons_zero, VIs, VSl, VAny] at hV
    obtain e5 := hV
    obtain ⟨q0, q1⟩ := hS.1.two
    go_simp
    refine (field_any _ _ _ _ _).mono ?_
    rintro e w1 ⟨rfl, hb⟩
    exact hK.out _ _ _ rfl rfl rfl hb
  simp only [List.setIfInBounds_toArray, List.set_cons_zero, List.set_cons_succ]
  refine obs_step (Eq.trans (by simp only [List.getElem?_toArray, List.getElem?_cons_succ, List.getElem?_cons_zero]; exact rfl) rfl) rfl (fun w' hS hV K hK => ?_) ?_
  · obtain ⟨q0, q1⟩ := hS.1.two
    go_simp
    exact hK.out _ _ _ rfl rfl rfl (Below.refl _ _)
  simp only [List.setIfInBounds_toArray, List.set_cons_zero, List.set_cons_succ]
  refine obs_step (Eq.trans (by simp only [List.getElem?_toArray, List.getElem?_cons_succ, List.getElem?_cons_zero]; exact rfl) rfl) rfl (fun w' hS hV K hK => ?_) ?_
  · obtain ⟨q0, q1⟩ := hS.1.two
    go_simp
    exact hK.out _ _ _ rfl rfl rfl (Below.refl _ _)
  simp only [List.setIfInBounds_toArray, List.set_cons_zero, List.set_cons_succ]
  refine obs_step (Eq.trans (by simp only [List.getElem?_toArray, List.getElem?_cons_succ, List.getElem?_cons_zero]; exact rfl) rfl) rfl (fun w' hS hV K hK => ?_) ?_
  · simp only [List.mem_cons, List.not_mem_nil, or_false, forall_eq_or_imp, forall_eq, List.getD_cons_succ, List.getD_cons_zero, VIs, VSl, VAny] at hV
    obtain ⟨e7, e8⟩ := hV
    obtain ⟨q0, q1⟩ := hS.1.two
    go_simp
    refine (spinorNorm_any P A n c sq _ _ xs _ hp hp2 hn (ha.below hS.2) hs (hx.below hS.2) hxs hcx).mono ?_
    rintro e w1 ⟨rfl, hb⟩
    exact hK.out _ _ _ rfl rfl rfl hb
  simp only [List.setIfInBounds_toArray, List.set_cons_zero, List.set_cons_succ]
  refine obs_step (Eq.trans (by simp only [List.getElem?_toArray, List.getElem?_cons_succ, List.getElem?_cons_zero]; exact rfl) rfl) rfl (fun w' hS hV K hK => ?_) ?_
  · simp only [List.mem_cons, List.not_mem_nil, or_false, forall_eq_or_imp, forall_eq, List.getD_cons_succ, List.getD_cons_zero, VIs, VSl, VAny] at hV
    obtain ⟨e5, e6, e7, e8, e9⟩ := hV
    obtain ⟨q0, q1⟩ := hS.1.two
    go_simp
    refine (inv_any P (nrmL P sq xs) _ hp hp2 (nrmL_small hp sq xs).1 (nrmL_small hp sq xs).2).mono ?_
    rintro e w1 ⟨rfl, rfl⟩
    exact hK.out _ _ _ rfl rfl rfl (Below.refl _ _)
  simp only [List.setIfInBounds_toArray, List.set_cons_zero, List.set_cons_succ]
  refine obs_step (Eq.trans (by simp only [List.getElem?_toArray, List.getElem?_cons_succ, List.getElem?_cons_zero]; exact rfl) rfl) rfl (fun w' hS hV K hK => ?_) ?_
  · simp only [List.mem_cons, List.not_mem_nil, or_false, forall_eq_or_imp, forall_eq, List.getD_cons_succ, List.getD_cons_zero, VIs, VSl, VAny] at hV
    obtain ⟨e0, e1, e2, e3, ⟨A4, c4, e4, h4⟩, e5, e6, e7, e8, e9, e10⟩ := hV
    obtain ⟨q0, q1⟩ := hS.1.two
    go_simp
    refine (scaled_any P _ (pw n) _ (invF P (nrmL P sq xs)) (revL P xs) _ hp hp2 HPW h4.rd (sgnL_nums (by omega) revT hxs) (by have := (invF_small hp (nrmL P sq xs)); omega) (by have := (invF_small hp (nrmL P sq xs)); omega)).mono ?_
    rintro e w1 ⟨A2, c2, rfl, hM⟩
    exact hK.out _ _ _ rfl rfl ⟨_, _, rfl, hM.after hS.2⟩ hM.b
  simp only [List.setIfInBounds_toArray, List.set_cons_zero, List.set_cons_succ]
  refine obs_step (Eq.trans (by simp only [List.getElem?_toArray, List.getElem?_cons_succ, List.getElem?_cons_zero]; exact rfl) rfl) rfl (fun w' hS hV K hK => ?_) ?_
  · simp only [List.mem_cons, List.not_mem_nil, or_false, forall_eq_or_imp, forall_eq, List.getD_cons_succ, List.getD_cons_zero, VIs, VSl, VAny] at hV
    obtain ⟨e0, e1, e2, e3, ⟨A4, c4, e4, h4⟩, e5, e6, e7, e8, e9, e10, ⟨A11, c11, e11, h11⟩⟩ := hV
    obtain ⟨q0, q1⟩ := hS.1.two
    go_simp
    exact hK.out _ _ _ rfl rfl ⟨_, _, rfl, h11⟩ (Below.refl _ _)
  simp only [List.setIfInBounds_toArray, List.set_cons_zero, List.set_cons_succ]
  refine fun w' hS hV => ?_
  have hV := fun i hi => hV i (List.mem_range.1 hi)
  simp only [List.range, List.range.loop, List.mem_cons, List.not_mem_nil, or_false, forall_eq_or_imp, forall_eq, List.getD_cons_succ, List.getD_cons_zero, VIs, VSl, VAny] at hV
  obtain ⟨e0, e1, e2, e3, ⟨A4, c4, e4, h4⟩, e5, e6, e7, e8, e9, e10, ⟨A11, c11, e11, h11⟩, ⟨A12, c12, e12, h12⟩⟩ := hV
  simp only [e0, e1, e2, e3, e4, e5, e6, e7, e8, e9, e10, e11, e12]
  clear e0 e1 e2 e3 e4 e5 e6 e7 e8 e9 e10 e11 e12
  refine wpAny_done (by kernel_rfl) ?_ _
  go_wp2
  go_ret
  exact ⟨_, _, rfl, h12⟩
set_option maxHeartbeats 1600000 in
set_option maxRecDepth 8000 in
theorem l07Inverse_any (P : Int) (A : Option Addr) (n c : Nat) (sq : List Int) (X : Option Addr) (cx : Nat) (xs : List Int) (w : World) (hp : 2 ≤ P) (hp2 : P ≤ 13) (hn : n ≤ 6) (ha : Rd w A n (ints sq)) (hs : NumsL P sq) (hx : Rd w X (pw n) (ints xs)) (hxs : NumsL P xs) (hcx : pw n ≤ cx) (HP : isP P = true) (hpos : 0 < nrmL P sq xs) :
    Calls Tryz.prog 182 #[.agg #[.int .i64 P, .slice A n c], .slice X (pw n) cx] w fun e w' => ∃ A' c', e = .returned (.slice A' (pw n) c') ∧ MkI w w' A' (pw n) c' (vinvL P sq xs) := by
  have hB0 : Below w.heap.size w (w.alloc (.cells #[.int .i64 P, .slice A n c] 26)) := (Below.refl _ _).alloc (Nat.le_refl _) _
  have k0 : Blk (w.alloc (.cells #[.int .i64 P, .slice A n c] 26)) w.heap.size 26 #[.int .i64 P, .slice A n c] := Blk.new _ _ _
  have HPW : pw n ≤ 65536 := Nat.le_trans (pw_le (show n ≤ 10 by omega)) (by decide)
  have HPW64 : pw n ≤ 64 := pw_le hn
  go_enter Tryz.func182, Tryz.ntmps182
  go_wp2
  refine wp_obs 13 [[], [0], [], [], [2, 3], [], [5], [], [], [7, 8], [5, 6, 7, 8, 9], [0, 1, 2, 3, 4, 5, 6, 7, 8, 9, 10], [0, 1, 2, 3, 4, 5, 6, 7, 8, 9, 10, 11]] [VIs (.pointer (some ⟨w.heap.size, 0, none⟩)), VIs (.int .i64 P), VIs (.agg #[.int .i64 P, .slice A n c]), VIs (.slice X (pw n) cx), VSl w (pw n) (revL P xs), VIs (.pointer (some ⟨w.heap.size, 0, none⟩)), VIs (.int .i64 P), VIs (.agg #[.int .i64 P, .slice A n c]), VIs (.slice X (pw n) cx), VIs (.int .i64 (nrmL P sq xs)), VIs (.int .i64 (invF P (nrmL P sq xs))), VSl w (pw n) (scaleL P (revL P xs) (invF P (nrmL P sq xs))), VSl w (pw n) (scaleL P (revL P xs) (invF P (nrmL P sq xs)))] (fun w' => Blk w' w.heap.size 26 #[.int .i64 P, .slice A n c] ∧ Below w.heap.size w w') (by kernel_rfl) (by kernel_rfl) (fun _ _ h hb => ⟨h.1.below hb h.1.lt, h.2.trans (hb.mono h.2.size)⟩) (⟨k0.drew, hB0.drew⟩) (fun x => ?_)
  refine obs_step (Eq.trans (by simp only [List.getElem?_toArray, List.getElem?_cons_zero]; exact rfl) rfl) rfl (fun w' hS hV K hK => ?_) ?_
  · obtain ⟨q0, q1⟩ := hS.1.two
    go_simp
    exact hK.out _ _ _ rfl rfl rfl (Below.refl _ _)
  simp only [List.setIfInBounds_toArray, List.set_cons_zero, List.set_cons_succ]
  refine obs_step (Eq.trans (by simp only [List.getElem?_toArray, List.getElem?_cons_succ, List.getElem?_cons_zero]; exact rfl) rfl) rfl (fun w' hS hV K hK => ?_) ?_
  · simp only [List.mem_cons, List.not_mem_nil, or_false, forall_eq, List.getD_cons_succ, List.getD_cons_zero, VIs, VSl, VAny] at hV
    obtain e0 := hV
    obtain ⟨q0, q1⟩ := hS.1.two
    go_simp
    exact hK.out _ _ _ rfl rfl rfl (Below.refl _ _)
  simp only [List.setIfInBounds_toArray, List.set_cons_zero, List.set_cons_succ]
  refine obs_step (Eq.trans (by simp only [List.getElem?_toArray, List.getElem?_cons_succ, List.getElem?_cons_zero]; exact rfl) rfl) rfl (fun w' hS hV K hK => ?_) ?_
  · obtain ⟨q0, q1⟩ := hS.1.two
    go_simp
    exact hK.out _ _ _ rfl rfl rfl (Below.refl _ _)
  simp only [List.setIfInBounds_toArray, List.set_cons_zero, List.set_cons_succ]
  refine obs_step (Eq.trans (by simp only [List.getElem?_toArray, List.getElem?_cons_succ, List.getElem?_cons_zero]; exact rfl) rfl) rfl (fun w' hS hV K hK => ?_) ?_
  · obtain ⟨q0, q1⟩ := hS.1.two
    go_simp
    exact hK.out _ _ _ rfl rfl rfl (Below.refl _ _)
  simp only [List.setIfInBounds_toArray, List.set_cons_zero, List.set_cons_succ]
  refine obs_step (Eq.trans (by simp only [List.getElem?_toArray, List.getElem?_cons_succ, List.getElem?_cons_zero]; exact rfl) rfl) rfl (fun w' hS hV K hK => ?_) ?_
  · simp only [List.mem_cons, List.not_mem_nil, or_false, forall_eq_or_imp, forall_eq, List.getD_cons_succ, List.getD_cons_zero, VIs, VSl, VAny] at hV
    obtain ⟨e2, e3⟩ := hV
    obtain ⟨q0, q1⟩ := hS.1.two
    go_simp
    refine (l04Reverse_any P A n c _ (pw n) _ xs _ hp hp2 HPW64 (hx.below hS.2) hxs).mono ?_
    rintro e w1 ⟨A2, c2, rfl, hM⟩
    exact hK.out _ _ _ rfl rfl ⟨_, _, rfl, hM.after hS.2⟩ hM.b
  simp only [List.setIfInBounds_toArray, List.set_cons_zero, List.set_cons_succ]
  refine obs_step (Eq.trans (by simp only [List.getElem?_toArray, List.getElem?_cons_succ, List.getElem?_cons_zero]; exact rfl) rfl) rfl (fun w' hS hV K hK => ?_) ?_
  · obtain ⟨q0, q1⟩ := hS.1.two
    go_simp
    exact hK.out _ _ _ rfl rfl rfl (Below.refl _ _)
  simp only [List.setIfInBounds_toArray, List.set_cons_zero, List.set_cons_succ]
  refine obs_step (Eq.trans (by simp only [List.getElem?_toArray, List.getElem?_cons_succ, List.getElem?_cons_zero]; exact rfl) rfl) rfl (fun w' hS hV K hK => ?_) ?_
  · simp only [List.mem_cons, List.not_mem_nil, or_false, forall_eq, List.getD_cons_succ, List.getD_cons_zero, VIs, VSl, VAny] at hV
    obtain e5 := hV
    obtain ⟨q0, q1⟩ := hS.1.two
    go_simp
    exact hK.out _ _ _ rfl rfl rfl (Below.refl _ _)
  simp only [List.setIfInBounds_toArray, List.set_cons_zero, List.set_cons_succ]
  refine obs_step (Eq.trans (by simp only [List.getElem?_toArray, List.getElem?_cons_succ, List.getElem?_cons_zero]; exact rfl) rfl) rfl (fun w' hS hV K hK => ?_) ?_
  · obtain ⟨q0, q1⟩ := hS.1.two
    go_simp
    exact hK.out _ _ _ rfl rfl rfl (Below.refl _ _)
  simp only [List.setIfInBounds_toArray, List.set_cons_zero, List.set_cons_succ]
  refine obs_step (Eq.trans (by simp only [List.getElem?_toArray, List.getElem?_cons_succ, List.getElem?_cons_zero]; exact rfl) rfl) rfl (fun w' hS hV K hK => ?_) ?_
  · obtain ⟨q0, q1⟩ := hS.1.two
    go_simp
    exact hK.out _ _ _ rfl rfl rfl (Below.refl _ _)
  simp only [List.setIfInBounds_toArray, List.set_cons_zero, List.set_cons_succ]
  refine obs_step (Eq.trans (by simp only [List.getElem?_toArray, List.getElem?_cons_succ, List.getElem?_cons_zero]; exact rfl) rfl) rfl (fun w' hS hV K hK => ?_) ?_
  · simp only [List.mem_cons, List.not_mem_nil, or_false, forall_eq_or_imp, forall_eq, List.getD_cons_succ, List.getD_cons_zero, VIs, VSl, VAny] at hV
    obtain ⟨e7, e8⟩ := hV
    obtain ⟨q0, q1⟩ := hS.1.two
    go_simp
    refine (l07Norm_any P A n c sq _ _ xs _ hp hp2 hn (ha.below hS.2) hs (hx.below hS.2) hxs hcx).mono ?_
    rintro e w1 ⟨rfl, hb⟩
    exact hK.out _ _ _ rfl rfl rfl hb
  simp only [List.setIfInBounds_toArray, List.set_cons_zero, List.set_cons_succ]
  refine obs_step (Eq.trans (by simp only [List.getElem?_toArray, List.getElem?_cons_succ, List.getElem?_cons_zero]; exact rfl) rfl) rfl (fun w' hS hV K hK => ?_) ?_
  · simp only [List.mem_cons, List.not_mem_nil, or_false, forall_eq_or_imp, forall_eq, List.getD_cons_succ, List.getD_cons_zero, VIs, VSl, VAny] at hV
    obtain ⟨e5, e6, e7, e8, e9⟩ := hV
    obtain ⟨q0, q1⟩ := hS.1.two
    go_simp
    refine (l01Inv_any P (nrmL P sq xs) _ HP hpos (nrmL_small hp sq xs).2).mono ?_
    rintro e w1 ⟨rfl, rfl⟩
    exact hK.out _ _ _ rfl rfl rfl (Below.refl _ _)
  simp only [List.setIfInBounds_toArray, List.set_cons_zero, List.set_cons_succ]
  refine obs_step (Eq.trans (by simp only [List.getElem?_toArray, List.getElem?_cons_succ, List.getElem?_cons_zero]; exact rfl) rfl) rfl (fun w' hS hV K hK => ?_) ?_
  · simp only [List.mem_cons, List.not_mem_nil, or_false, forall_eq_or_imp, forall_eq, List.getD_cons_succ, List.getD_cons_zero, VIs, VSl, VAny] at hV
    obtain ⟨e0, e1, e2, e3, ⟨A4, c4, e4, h4⟩, e5, e6, e7, e8, e9, e10⟩ := hV
    obtain ⟨q0, q1⟩ := hS.1.two
    go_simp
    refine (l02Scale_any P _ (pw n) _ (invF P (nrmL P sq xs)) (revL P xs) _ hp hp2 HPW h4.rd (sgnL_nums (by omega) revT hxs) (by have := (invF_small hp (nrmL P sq xs)); omega) (by have := (invF_small hp (nrmL P sq xs)); omega)).mono ?_
    rintro e w1 ⟨A2, c2, rfl, hM⟩
    exact hK.out _ _ _ rfl rfl ⟨_, _, rfl, hM.after hS.2⟩ hM.b
  simp only [List.setIfInBounds_toArray, List.set_cons_zero, List.set_cons_succ]
  refine obs_step (Eq.trans (by simp only [List.getElem?_toArray, List.getElem?_cons_succ, List.getElem?_cons_zero]; exact rfl) rfl) rfl (fun w' hS hV K hK => ?_) ?_
  · simp only [List.mem_cons, List.not_mem_nil, or_false, forall_eq_or_imp, forall_eq, List.getD_cons_succ, List.getD_cons_zero, VIs, VSl, VAny] at hV
    obtain ⟨e0, e1, e2, e3, ⟨A4, c4, e4, h4⟩, e5, e6, e7, e8, e9, e10, ⟨A11, c11, e11, h11⟩⟩ := hV
    obtain ⟨q0, q1⟩ := hS.1.two
    go_simp
    exact hK.out _ _ _ rfl rfl ⟨_, _, rfl, h11⟩ (Below.refl _ _)
  simp only [List.setIfInBounds_toArray, List.set_cons_zero, List.set_cons_succ]
  refine fun w' hS hV => ?_
  have hV := fun i hi => hV i (List.mem_range.1 hi)
  simp only [List.range, List.range.loop, List.mem_cons, List.not_mem_nil, or_false, forall_eq_or_imp, forall_eq, List.getD_cons_succ, List.getD_cons_zero, VIs, VSl, VAny] at hV
  obtain ⟨e0, e1, e2, e3, ⟨A4, c4, e4, h4⟩, e5, e6, e7, e8, e9, e10, ⟨A11, c11, e11, h11⟩, ⟨A12, c12, e12, h12⟩⟩ := hV
  simp only [e0, e1, e2, e3, e4, e5, e6, e7, e8, e9, e10, e11, e12]
  clear e0 e1 e2 e3 e4 e5 e6 e7 e8 e9 e10 e11 e12
  refine wpAny_done (by kernel_rfl) ?_ _
  go_wp2
  go_ret
  exact ⟨_, _, rfl, h12⟩
set_option maxHeartbeats 1600000 in
set_option maxRecDepth 8000 in
theorem sandwich_any (P : Int) (A : Option Addr) (n c : Nat) (sq : List Int) (X : Option Addr) (cx : Nat) (xs : List Int) (Y : Option Addr) (cy : Nat) (v : List Int) (w : World) (hp : 2 ≤ P) (hp2 : P ≤ 13) (hn : n ≤ 6) (ha : Rd w A n (ints sq)) (hs : NumsL P sq) (hx : Rd w X (pw n) (ints xs)) (hxs : NumsL P xs) (hcx : pw n ≤ cx) (hy : Rd w Y n (ints v)) (hys : NumsL P v) (_hcy : n ≤ cy) :
    Calls Tryz.prog 165 #[.agg #[.int .i64 P, .slice A n c], .slice X (pw n) cx, .slice Y n cy] w fun e w' => ∃ A' c', e = .returned (.slice A' (n) c') ∧ MkI w w' A' (n) c' (sandL P sq n xs v) := by
  have hB0 : Below w.heap.size w (w.alloc (.cells #[.int .i64 P, .slice A n c] 26)) := (Below.refl _ _).alloc (Nat.le_refl _) _
  have k0 : Blk (w.alloc (.cells #[.int .i64 P, .slice A n c] 26)) w.heap.size 26 #[.int .i64 P, .slice A n c] := Blk.new _ _ _
  have HPW : pw n ≤ 65536 := Nat.le_trans (pw_le (show n ≤ 10 by omega)) (by decide)
  have HPW64 : pw n ≤ 64 := pw_le hn
  go_enter Tryz.func165, Tryz.ntmps165
  go_wp2
  refine wp_obs 15 [[], [], [], [], [2, 3], [], [], [5, 6], [], [], [8, 9], [2, 3, 4, 5, 6, 7, 8, 9, 10], [1, 2, 3, 4, 5, 6, 7, 8, 9, 10, 11], [0, 1, 2, 3, 4, 5, 6, 7, 8, 9, 10, 11, 12], [0, 1, 2, 3, 4, 5, 6, 7, 8, 9, 10, 11, 12, 13]] [VIs (.agg #[.int .i64 P, .slice A n c]), VIs (.agg #[.int .i64 P, .slice A n c]), VIs (.agg #[.int .i64 P, .slice A n c]), VIs (.slice X (pw n) cx), VSl w (pw n) (invoL P xs), VIs (.agg #[.int .i64 P, .slice A n c]), VIs (.slice Y n cy), VSl w (pw n) (vecTo n v n), VIs (.agg #[.int .i64 P, .slice A n c]), VIs (.slice X (pw n) cx), VSl w (pw n) (vinvL P sq xs), VRow 3 [(invoL P xs), (vecTo n v n), (vinvL P sq xs)], VSl w (pw n) (timesL P sq n [(invoL P xs), (vecTo n v n), (vinvL P sq xs)]), VSl w (n) (partL n (timesL P sq n [(invoL P xs), (vecTo n v n), (vinvL P sq xs)])), VSl w (n) (partL n (timesL P sq n [(invoL P xs), (vecTo n v n), (vinvL P sq xs)]))] (fun w' => Blk w' w.heap.size 26 #[.int .i64 P, .slice A n c] ∧ Below w.heap.size w w') (by kernel_rfl) (by kernel_rfl) (fun _ _ h hb => ⟨h.1.below hb h.1.lt, h.2.trans (hb.mono h.2.size)⟩) (⟨k0.drew, hB0.drew⟩) (fun x => ?_)
  refine obs_step (Eq.trans (by simp only [List.getElem?_toArray, List.getElem?_cons_zero]; exact rfl) rfl) rfl (fun w' hS hV K hK => ?_) ?_
  · obtain ⟨q0, q1⟩ := hS.1.two
    go_simp
    exact hK.out _ _ _ rfl rfl rfl (Below.refl _ _)
  simp only [List.setIfInBounds_toArray, List.set_cons_zero, List.set_cons_succ]
  refine obs_step (Eq.trans (by simp only [List.getElem?_toArray, List.getElem?_cons_succ, List.getElem?_cons_zero]; exact rfl) rfl) rfl (fun w' hS hV K hK => ?_) ?_
  · obtain ⟨q0, q1⟩ := hS.1.two
    go_simp
    exact hK.out _ _ _ rfl rfl rfl (Below.refl _ _)
  simp only [List.setIfInBounds_toArray, List.set_cons_zero, List.set_cons_succ]
  refine obs_step (Eq.trans (by simp only [List.getElem?_toArray, List.getElem?_cons_succ, List.getElem?_cons_zero]; exact rfl) rfl) rfl (fun w' hS hV K hK => ?_) ?_
  · obtain ⟨q0, q1⟩ := hS.1.two
    go_simp
    exact hK.out _ _ _ rfl rfl rfl (Below.refl _ _)
  simp only [List.setIfInBounds_toArray, List.set_cons_zero, List.set_cons_succ]
  refine obs_step (Eq.trans (by simp only [List.getElem?_toArray, List.getElem?_cons_succ, List.getElem?_cons_zero]; exact rfl) rfl) rfl (fun w' hS hV K hK => ?_) ?_
  · obtain ⟨q0, q1⟩ := hS.1.two
    go_simp
    exact hK.out _ _ _ rfl rfl rfl (Below.refl _ _)
  simp only [List.setIfInBounds_toArray, List.set_cons_zero, List.set_cons_succ]
  refine obs_step (Eq.trans (by simp only [List.getElem?_toArray, List.getElem?_cons_succ, List.getElem?_cons_zero]; exact rfl) rfl) rfl (fun w' hS hV K hK => ?_) ?_
  · simp only [List.mem_cons, List.not_mem_nil, or_false, forall_eq_or_imp, forall_eq, List.getD_cons_succ, List.getD_cons_zero, VIs, VSl, VRow, VAny] at hV
    obtain ⟨e2, e3⟩ := hV
    obtain ⟨q0, q1⟩ := hS.1.two
    go_simp
    refine (involute_any P A n c _ (pw n) _ xs _ hp hp2 HPW64 (hx.below hS.2) hxs).mono ?_
    rintro e w1 ⟨A2, c2, rfl, hM⟩
    exact hK.out _ _ _ rfl rfl ⟨_, _, rfl, hM.after hS.2⟩ hM.b
  simp only [List.setIfInBounds_toArray, List.set_cons_zero, List.set_cons_succ]
  refine obs_step (Eq.trans (by simp only [List.getElem?_toArray, List.getElem?_cons_succ, List.getElem?_cons_zero]; exact rfl) rfl) rfl (fun w' hS hV K hK => ?_) ?_
  · obtain ⟨q0, q1⟩ := hS.1.two
    go_simp
    exact hK.out _ _ _ rfl rfl rfl (Below.refl _ _)
  simp only [List.setIfInBounds_toArray, List.set_cons_zero, List.set_cons_succ]
  refine obs_step (Eq.trans (by simp only [List.getElem?_toArray, List.getElem?_cons_succ, List.getElem?_cons_zero]; exact rfl) rfl) rfl (fun w' hS hV K hK => ?_) ?_
  · obtain ⟨q0, q1⟩ := hS.1.two
    go_simp
    exact hK.out _ _ _ rfl rfl rfl (Below.refl _ _)
  simp only [List.setIfInBounds_toArray, List.set_cons_zero, List.set_cons_succ]
  refine obs_step (Eq.trans (by simp only [List.getElem?_toArray, List.getElem?_cons_succ, List.getElem?_cons_zero]; exact rfl) rfl) rfl (fun w' hS hV K hK => ?_) ?_
  · simp only [List.mem_cons, List.not_mem_nil, or_false, forall_eq_or_imp, forall_eq, List.getD_cons_succ, List.getD_cons_zero, VIs, VSl, VRow, VAny] at hV
    obtain ⟨e5, e6⟩ := hV
    obtain ⟨q0, q1⟩ := hS.1.two
    go_simp
    refine (vector_any P A n c _ _ v _ (by omega) (hy.below hS.2)).mono ?_
    rintro e w1 ⟨A2, c2, rfl, hM⟩
    exact hK.out _ _ _ rfl rfl ⟨_, _, rfl, hM.after hS.2⟩ hM.b
  simp only [List.setIfInBounds_toArray, List.set_cons_zero, List.set_cons_succ]
  refine obs_step (Eq.trans (by simp only [List.getElem?_toArray, List.getElem?_cons_succ, List.getElem?_cons_zero]; exact rfl) rfl) rfl (fun w' hS hV K hK => ?_) ?_
  · obtain ⟨q0, q1⟩ := hS.1.two
    go_simp
    exact hK.out _ _ _ rfl rfl rfl (Below.refl _ _)
  simp only [List.setIfInBounds_toArray, List.set_cons_zero, List.set_cons_succ]
  refine obs_step (Eq.trans (by simp only [List.getElem?_toArray, List.getElem?_cons_succ, List.getElem?_cons_zero]; exact rfl) rfl) rfl (fun w' hS hV K hK => ?_) ?_
  · obtain ⟨q0, q1⟩ := hS.1.two
    go_simp
    exact hK.out _ _ _ rfl rfl rfl (Below.refl _ _)
  simp only [List.setIfInBounds_toArray, List.set_cons_zero, List.set_cons_succ]
  refine obs_step (Eq.trans (by simp only [List.getElem?_toArray, List.getElem?_cons_succ, List.getElem?_cons_zero]; exact rfl) rfl) rfl (fun w' hS hV K hK => ?_) ?_
  · simp only [List.mem_cons, List.not_mem_nil, or_false, forall_eq_or_imp, forall_eq, List.getD_cons_succ, List.getD_cons_zero, VIs, VSl, VRow, VAny] at hV
    obtain ⟨e8, e9⟩ := hV
    obtain ⟨q0, q1⟩ := hS.1.two
    go_simp
    refine (versorInverse_any P A n c sq _ _ xs _ hp hp2 hn (ha.below hS.2) hs (hx.below hS.2) hxs hcx).mono ?_
    rintro e w1 ⟨A2, c2, rfl, hM⟩
    exact hK.out _ _ _ rfl rfl ⟨_, _, rfl, hM.after hS.2⟩ hM.b
  simp only [List.setIfInBounds_toArray, List.set_cons_zero, List.set_cons_succ]
  refine obs_step (Eq.trans (by simp only [List.getElem?_toArray, List.getElem?_cons_succ, List.getElem?_cons_zero]; exact rfl) rfl) rfl (fun w' hS hV K hK => ?_) ?_
  · simp only [List.mem_cons, List.not_mem_nil, or_false, forall_eq_or_imp, forall_eq, List.getD_cons_succ, List.getD_cons_zero, VIs, VSl, VRow, VAny] at hV
    obtain ⟨e2, e3, ⟨A4, c4, e4, h4⟩, e5, e6, ⟨A7, c7, e7, h7⟩, e8, e9, ⟨A10, c10, e10, h10⟩⟩ := hV
    obtain ⟨q0, q1⟩ := hS.1.two
    go_simp
    exact hK.out _ _ _ rfl rfl ⟨_, _, rfl, rdII_three (Blk.new _ _ _) (Rd.below (h4.rd) ((Below.refl _ _).alloc (Nat.le_refl _) _)) (Rd.below (h7.rd) ((Below.refl _ _).alloc (Nat.le_refl _) _)) (Rd.below (h10.rd) ((Below.refl _ _).alloc (Nat.le_refl _) _)) (h4.2.cap) (h7.2.cap) (h10.2.cap)⟩ ((Below.refl _ _).alloc (Nat.le_refl _) _)
  simp only [List.setIfInBounds_toArray, List.set_cons_zero, List.set_cons_succ]
  refine obs_step (Eq.trans (by simp only [List.getElem?_toArray, List.getElem?_cons_succ, List.getElem?_cons_zero]; exact rfl) rfl) rfl (fun w' hS hV K hK => ?_) ?_
  · simp only [List.mem_cons, List.not_mem_nil, or_false, forall_eq_or_imp, forall_eq, List.getD_cons_succ, List.getD_cons_zero, VIs, VSl, VRow, VAny] at hV
    obtain ⟨e1, e2, e3, ⟨A4, c4, e4, h4⟩, e5, e6, ⟨A7, c7, e7, h7⟩, e8, e9, ⟨A10, c10, e10, h10⟩, ⟨A11, c11, e11, h11⟩⟩ := hV
    obtain ⟨q0, q1⟩ := hS.1.two
    go_simp
    refine (times_any P A n c sq _ 3 _ [(invoL P xs), (vecTo n v n), (vinvL P sq xs)] _ hp hp2 hn (by omega) (ha.below hS.2) hs h11 (all_three ⟨(sgnL_nums (by omega) oddT hxs), Rd.lenI (h4.rd)⟩ ⟨(vecTo_nums (by omega) n v hys n), Rd.lenI (h7.rd)⟩ ⟨(vinvL_nums hp sq xs), Rd.lenI (h10.rd)⟩)).mono ?_
    rintro e w1 ⟨A2, c2, rfl, hM⟩
    exact hK.out _ _ _ rfl rfl ⟨_, _, rfl, hM.after hS.2⟩ hM.b
  simp only [List.setIfInBounds_toArray, List.set_cons_zero, List.set_cons_succ]
  refine obs_step (Eq.trans (by simp only [List.getElem?_toArray, List.getElem?_cons_succ, List.getElem?_cons_zero]; exact rfl) rfl) rfl (fun w' hS hV K hK => ?_) ?_
  · simp only [List.mem_cons, List.not_mem_nil, or_false, forall_eq_or_imp, forall_eq, List.getD_cons_succ, List.getD_cons_zero, VIs, VSl, VRow, VAny] at hV
    obtain ⟨e0, e1, e2, e3, ⟨A4, c4, e4, h4⟩, e5, e6, ⟨A7, c7, e7, h7⟩, e8, e9, ⟨A10, c10, e10, h10⟩, ⟨A11, c11, e11, h11⟩, ⟨A12, c12, e12, h12⟩⟩ := hV
    obtain ⟨q0, q1⟩ := hS.1.two
    go_simp
    refine (vectorPart_any P A n c _ _ (timesL P sq n [(invoL P xs), (vecTo n v n), (vinvL P sq xs)]) _ (by omega) h12.rd).mono ?_
    rintro e w1 ⟨A2, c2, rfl, hM⟩
    exact hK.out _ _ _ rfl rfl ⟨_, _, rfl, hM.after hS.2⟩ hM.b
  simp only [List.setIfInBounds_toArray, List.set_cons_zero, List.set_cons_succ]
  refine obs_step (Eq.trans (by simp only [List.getElem?_toArray, List.getElem?_cons_succ, List.getElem?_cons_zero]; exact rfl) rfl) rfl (fun w' hS hV K hK => ?_) ?_
  · simp only [List.mem_cons, List.not_mem_nil, or_false, forall_eq_or_imp, forall_eq, List.getD_cons_succ, List.getD_cons_zero, VIs, VSl, VRow, VAny] at hV
    obtain ⟨e0, e1, e2, e3, ⟨A4, c4, e4, h4⟩, e5, e6, ⟨A7, c7, e7, h7⟩, e8, e9, ⟨A10, c10, e10, h10⟩, ⟨A11, c11, e11, h11⟩, ⟨A12, c12, e12, h12⟩, ⟨A13, c13, e13, h13⟩⟩ := hV
    obtain ⟨q0, q1⟩ := hS.1.two
    go_simp
    exact hK.out _ _ _ rfl rfl ⟨_, _, rfl, h13⟩ (Below.refl _ _)
  simp only [List.setIfInBounds_toArray, List.set_cons_zero, List.set_cons_succ]
  refine fun w' hS hV => ?_
  have hV := fun i hi => hV i (List.mem_range.1 hi)
  simp only [List.range, List.range.loop, List.mem_cons, List.not_mem_nil, or_false, forall_eq_or_imp, forall_eq, List.getD_cons_succ, List.getD_cons_zero, VIs, VSl, VRow, VAny] at hV
  obtain ⟨e0, e1, e2, e3, ⟨A4, c4, e4, h4⟩, e5, e6, ⟨A7, c7, e7, h7⟩, e8, e9, ⟨A10, c10, e10, h10⟩, ⟨A11, c11, e11, h11⟩, ⟨A12, c12, e12, h12⟩, ⟨A13, c13, e13, h13⟩, ⟨A14, c14, e14, h14⟩⟩ := hV
  simp only [e0, e1, e2, e3, e4, e5, e6, e7, e8, e9, e10, e11, e12, e13, e14]
  clear e0 e1 e2 e3 e4 e5 e6 e7 e8 e9 e10 e11 e12 e13 e14
  refine wpAny_done (by kernel_rfl) ?_ _
  go_wp2
  go_ret
  refine ⟨_, _, rfl, ?_⟩
  unfold sandL
  rw [← timesL_three P sq n (invoL P xs) _ _ (by unfold invoL; rw [sgnL_len, hx.lenI]) (sgnL_nums (by omega) oddT hxs)]
  exact h14
end Go.Proofs.YtggigolkncckoaaGreat
namespace Go.Proofs.YtggigolkncckoaaGreat
open Go.RowKit
theorem lead_lt_iff (v : List Int) : leadL v < v.length ↔ ∃ i, i < v.length ∧ v.getD i 0 ≠ 0 := by
  constructor
  · intro h; exact ⟨leadL v, h, leadL_at v h⟩
  · rintro ⟨i, hi, hne⟩
    rcases Nat.lt_or_ge i (leadL v) with h | h
    · exact absurd (leadL_before v i h) hne
    · omega
theorem firstL_part (xs : List Int) (k : Nat) : decide (0 ≤ firstL (partG xs k)) = hasG xs k := by
  rw [Bool.eq_iff_iff, decide_eq_true_eq, hasG_iff]
  have h := lead_lt_iff (partG xs k)
  rw [partG_len] at h
  unfold firstL
  rw [partG_len]
  constructor
  · intro h0
    by_cases hl : leadL (partG xs k) < xs.length
    · obtain ⟨i, hi, hne⟩ := h.1 hl
      rw [partG_getD hi] at hne
      by_cases hp : pc i = k
      · rw [if_pos hp] at hne; exact ⟨i, hi, hne, hp⟩
      · rw [if_neg hp] at hne; exact absurd rfl hne
    · rw [if_neg hl] at h0; omega
  · rintro ⟨i, hi, hne, hp⟩
    rw [if_pos (h.2 ⟨i, hi, by rw [partG_getD hi, if_pos hp]; exact hne⟩)]
    omega
theorem gradesL_n (xs : List Int) (n : Nat) (hn : n ≤ 6) (hx : xs.length = pw n) : ((List.range (n + 1)).filter (hasG xs)).map (fun k : Nat => (k : Int)) = gradesL xs := by
  unfold gradesL
  congr 1
  have h : ∀ j, n + 1 + j ≤ 7 → (List.range (n + 1 + j)).filter (hasG xs) = (List.range (n + 1)).filter (hasG xs) := by
    intro j
    induction j with
    | zero => intro _; rfl
    | succ j ih =>
      intro hj
      rw [show n + 1 + (j + 1) = (n + 1 + j) + 1 by omega, List.range_succ, List.filter_append, ih (by omega)]
      have : hasG xs (n + 1 + j) = false := by
        rw [Bool.eq_false_iff]
        intro hh
        obtain ⟨i, hi, _, hp⟩ := (hasG_iff _ _).1 hh
        have := pc_le n i (by rw [hx] at hi; exact hi)
        omega
      simp [this]
  have := h (7 - (n + 1)) (by omega)
  rw [show n + 1 + (7 - (n + 1)) = 7 by omega] at this
  exact this.symm
/-- The grades up to k, collected. -/
def grT (xs : List Int) (k : Nat) : List Int := ((List.range k).filter (hasG xs)).map fun k : Nat => (k : Int)
theorem grT_succ (xs : List Int) (k : Nat) : grT xs (k + 1) = if hasG xs k then grT xs k ++ [(k : Int)] else grT xs k := by
  unfold grT
  rw [List.range_succ, List.filter_append, List.map_append, List.filter_cons, List.filter_nil]
  split
  · rfl
  · rw [List.map_nil, List.append_nil]
theorem grT_le (xs : List Int) (k : Nat) : (grT xs k).length ≤ k := by
  unfold grT
  rw [List.length_map]
  exact Nat.le_trans (List.length_filter_le _ _) (by simp)
set_option maxHeartbeats 800000 in
theorem l04Grades_any (P : Int) (A : Option Addr) (n c : Nat) (X : Option Addr) (cx : Nat) (xs : List Int) (w : World) (hn : n ≤ 6) (hx : Rd w X (pw n) (ints xs)) :
    Calls Tryz.prog 137 #[.agg #[.int .i64 P, .slice A n c], .slice X (pw n) cx] w fun e w' => ∃ A' c', e = .returned (.slice A' (gradesL xs).length c') ∧ MkI w w' A' (gradesL xs).length c' (gradesL xs) := by
  have hxl := hx.lenI
  have HPW64 : pw n ≤ 64 := pw_le hn
  have HG : Hid (grT xs (n + 1) = gradesL xs) := Lib.hid (gradesL_n xs n hn hxl)
  have hB0 : Below w.heap.size w (w.alloc (.cells #[.int .i64 P, .slice A n c] 26)) := (Below.refl _ w).alloc (Nat.le_refl _) _
  have k0 : Blk (w.alloc (.cells #[.int .i64 P, .slice A n c] 26)) w.heap.size 26 #[.int .i64 P, .slice A n c] := Blk.new w _ _
  have hM0 := Mk.lit (E := 2) hB0 #[] (by simp)
  have hM1 : MkI w ((w.alloc (.cells #[.int .i64 P, .slice A n c] 26)).alloc (.cells #[] 2)) (some ⟨w.heap.size + 1, 0, none⟩) 0 0 [] := by simpa [MkI, ints] using hM0
  have k1 := k0.alloc (.cells #[] 2)
  clear hxl
  go_enter Tryz.func137, Tryz.ntmps137
  go_wp2
  clear hM0 hB0 k0
  obtain ⟨w1, hw1⟩ : ∃ W, W = (w.alloc (.cells #[.int .i64 P, .slice A n c] 26)).alloc (.cells #[] 2) := ⟨_, rfl⟩
  rw [← hw1] at hM1 k1 ⊢
  clear hw1
  go_loopw [5, 6] (fun o i wr => ∃ (k : Nat) (A' : Option Addr) (c' : Nat), k ≤ n + 1 ∧ i = .int .i64 k ∧ o = .slice A' (grT xs k).length c' ∧ MkI w wr A' (grT xs k).length c' (grT xs k) ∧ Blk wr w.heap.size 26 #[.int .i64 P, .slice A n c]) (fun _ i _ => n + 1 - (intOf i).toNat)
  case atStart => exact ⟨0, _, _, by omega, rfl, rfl, by simpa [MkI, ints, grT] using hM1, k1⟩
  case round =>
    obtain ⟨k, A', c', hk, rfl, rfl, hM, hk2⟩ := hrel
    clear hM1 k1
    obtain ⟨q0, q1⟩ := hk2.two
    have HS := Lib.hid (grT_succ xs k)
    have hle := grT_le xs k
    have HT := Lib.hid (firstL_part xs k)
    by_cases hlt : k ≤ n
    · obtain ⟨l, hl⟩ : ∃ l, l = (grT xs k).length := ⟨_, rfl⟩
      rw [← hl] at hle hM ⊢
      have HL := Lib.hid hl
      have HR := Lib.hid (hx.below hM.b)
      have HM := Lib.hid hM
      clear hl hM
      cases hh : hasG xs k
      all_goals
        have HH := Lib.hid hh
        have hb : decide (0 ≤ firstL (partG xs k)) = hasG xs k := HT.out
        rw [hh] at hb
        clear hh
        go_wp2_with fail
        refine (l04Part_any _ _ _ _ _ _ HPW64 (by omega) HR.out).mono ?_
        rintro e w1 ⟨A1, c1, rfl, hP⟩
        have hk3 := hk2.below hP.b hk2.lt
        have HM2 := Lib.hid (HM.out.below hP.b)
        clear q0 q1
        obtain ⟨q0, q1⟩ := hk3.two
        go_wp2_with fail
        refine (l02First_any _ _ _ _ _ (by omega) hP.rd).mono ?_
        rintro e w2 ⟨rfl, rfl⟩
      · go_wp2
        go_roundw
        case rel =>
          have e : grT xs (k + 1) = grT xs k := by rw [HS.out, HH.out]; rfl
          exact ⟨k + 1, A', c', by omega, by go_num, by rw [e, ← HL.out], by rw [e, ← HL.out]; exact HM2.out, hk3⟩
        case measure => simp [intOf]; omega
      · go_wp2_with (at_builtin; refine wpList_app1 w _ 24 2 _ _ Tryz.underlying24 info_i rfl (by omega) rfl _ _ rfl A' l c' _ _ HM2.out (by omega) rfl rfl rfl ?_; intro A2 c2 w3 hM3 hgr _)
        have hk4 := hk3.grown hgr (HM2.out.2.ne_blk hk3 (by decide))
        go_roundw
        case rel =>
          have e : grT xs (k + 1) = grT xs k ++ [(k : Int)] := by rw [HS.out, HH.out]; rfl
          have el : (grT xs (k + 1)).length = l + 1 := by rw [e, List.length_append, HL.out]; rfl
          exact ⟨k + 1, A2, c2, by omega, by go_num, by rw [el], by rw [el, e]; simpa [MkI, ints] using hM3, hk4⟩
        case measure => simp [intOf]; omega
    · obtain rfl : k = n + 1 := by omega
      rw [HG.out] at hM ⊢
      go_wp2
      go_ret
      exact ⟨_, _, rfl, hM⟩
/-- Are there grades of both parities? -/
def mixB (gs : List Int) : Bool := gs.any fun g => g % (2 : Int) != gs.getD 0 0 % (2 : Int)
/-- The parity of the grades, or -1. -/
def evnV (gs : List Int) : Int := if mixB gs then -1 else gs.getD 0 0 % (2 : Int)
theorem evnV_neg {gs : List Int} (_h : ∀ g ∈ gs, 0 ≤ g) : decide (evnV gs < 0) = mixB gs := by
  unfold evnV
  cases mixB gs
  · simp only [Bool.false_eq_true, if_false, decide_eq_false_iff_not]; omega
  · rfl
set_option maxHeartbeats 800000 in
theorem l07Even_any (P : Int) (A : Option Addr) (n c : Nat) (X : Option Addr) (cx : Nat) (xs : List Int) (w : World) (hn : n ≤ 6) (hx : Rd w X (pw n) (ints xs)) :
    Calls Tryz.prog 313 #[.agg #[.int .i64 P, .slice A n c], .slice X (pw n) cx] w fun e w' => e = .returned (.int .i64 (evnV (gradesL xs))) ∧ Below w.heap.size w w' := by
  have hB0 : Below w.heap.size w (w.alloc (.cells #[.int .i64 P, .slice A n c] 26)) := (Below.refl _ w).alloc (Nat.le_refl _) _
  have hl7 := gradesL_len xs
  have hrg := gradesL_range xs
  go_enter Tryz.func313, Tryz.ntmps313
  go_wp2_with fail
  refine (l04Grades_any P A n c X cx xs _ hn (hx.below hB0)).mono ?_
  rintro e w1 ⟨A', c', rfl, hM⟩
  have hB1 := hB0.trans (hM.b.mono (by simp))
  obtain ⟨gs, hgs⟩ : ∃ gs, gs = gradesL xs := ⟨_, rfl⟩
  rw [← hgs] at hM hl7 hrg ⊢
  have HGS := Lib.hid hgs
  clear hgs
  obtain ⟨l, hl⟩ : ∃ l, l = gs.length := ⟨_, rfl⟩
  rw [← hl] at hM hl7 ⊢
  have HL := Lib.hid hl
  clear hl
  go_wp2_with fail
  go_loop [6, 7] (fun o i => ∃ (k : Nat) (q : Int), k ≤ l ∧ i = .int .i64 k ∧ o = .int .i64 q ∧ 0 ≤ q ∧ q ≤ 1 ∧ (k = 0 ∧ q = 0 ∨ q = gs.getD 0 0 % 2) ∧ (gs.take k).any (fun g => g % 2 != gs.getD 0 0 % 2) = false) (fun _ i => l - (intOf i).toNat)
  case atStart => exact ⟨0, 0, by omega, rfl, rfl, by omega, by omega, .inl ⟨rfl, rfl⟩, by simp⟩
  case round =>
    obtain ⟨k, q, hk, rfl, rfl, hq0, hq1, hq, ht⟩ := hrel
    have HT := Lib.hid ht
    clear ht
    by_cases hlt : k < l
    · obtain ⟨g, o, rfl, hxk, hcx⟩ := hM.rd.int hlt
      obtain ⟨g', o', e', hx0, hc0⟩ := hM.rd.int (show 0 < l by omega)
      injection e' with e'; injection e' with e1 e2 _
      subst e1; subst e2
      obtain ⟨r1, r2⟩ := hrg _ (List.getElem_mem hxk)
      obtain ⟨s1, s2⟩ := hrg _ (List.getElem_mem hx0)
      have HG0 : Hid (gs.getD 0 0 = gs[0]) := Lib.hid (getD_of_lt 0 hx0)
      rw [Nat.add_zero] at hc0
      cases hb : (gs[k] % (2 : Int) != gs[0] % (2 : Int))
      all_goals
        have HB := Lib.hid hb
        rcases Nat.eq_zero_or_pos k with hk0 | hk0
        · subst hk0
          rw [Nat.add_zero] at hcx
          clear hq
          go_wp2
          all_goals first
            | (exfalso; have := HB.out; simp at this; done)
            | (go_round
               case rel => exact ⟨0 + 1, _, by omega, by go_num, rfl, by omega, by omega, .inr (by rw [HG0.out]), any_take_succ (q := fun g => g % 2 != gs.getD 0 0 % 2) hxk HT.out (by rw [HG0.out]; exact HB.out)⟩
               case measure => simp [intOf]; omega)
        · have hqe : q = gs[0] % 2 := by rcases hq with h | h; (omega); (rw [h, HG0.out])
          have hb' : (gs[k] % (2 : Int) != q) = (gs[k] % (2 : Int) != gs[0] % (2 : Int)) := by rw [hqe]
          rw [hb] at hb'
          have HQ := Lib.hid hqe
          have hkb : ((k : Int) == 0) = false := by simp; omega
          clear hq hqe hb
          go_wp2
          all_goals first
            | (go_ret
               refine ⟨ret_int ?_, hB1⟩
               have : (gs.any fun g => g % 2 != gs.getD 0 0 % 2) = true := List.any_eq_true.2 ⟨gs[k], List.getElem_mem hxk, by rw [HG0.out]; exact HB.out⟩
               unfold evnV mixB
               rw [← HGS.out, this]; rfl)
            | (go_round
               case rel => exact ⟨k + 1, q, by omega, by go_num, rfl, by omega, by omega, .inr (by rw [HG0.out]; exact HQ.out), any_take_succ (q := fun g => g % 2 != gs.getD 0 0 % 2) hxk HT.out (by rw [HG0.out]; exact HB.out)⟩
               case measure => simp [intOf]; omega)
    · obtain rfl : k = l := by omega
      go_wp2
      go_ret
      refine ⟨ret_int ?_, hB1⟩
      have := HT.out
      rw [List.take_of_length_le (by rw [← HL.out]; omega)] at this
      unfold evnV mixB
      rw [← HGS.out, this]
      simp only [Bool.false_eq_true, if_false]
      rcases hq with ⟨h1, h2⟩ | h
      · have : gs = [] := List.eq_nil_of_length_eq_zero (by rw [← HL.out]; exact h1)
        rw [h2, this]; rfl
      · exact h
/-- Even, by the involute. -/
theorem evenL_invo {P : Int} {n : Nat} (hp : isP P = true) (hn : n ≤ 6) {xs : List Int} (hl : xs.length = pw n) (hx : NumsL P xs) : decide (xs = invoL P xs) = evenL xs := by
  have hpp := isP_ge hp
  have hl64 : xs.length ≤ 64 := by rw [hl]; exact pw_le hn
  unfold evenL
  rw [Bool.eq_iff_iff, decide_eq_true_eq, Bool.not_eq_true', List.any_eq_false]
  constructor
  · intro he g hg
    obtain ⟨i, hi, hne, rfl⟩ := (gradesL_mem xs hl64 g).1 hg
    intro hodd
    have hod : oddT (pc i) = true := by have := beq_iff_eq.1 hodd; exact beq_iff_eq.2 (by omega)
    have h1 : xs.getD i 0 = (invoL P xs).getD i 0 := congrArg (fun l => l.getD i 0) he
    unfold invoL at h1
    rw [sgnL_getD hi, if_pos hod] at h1
    obtain ⟨b1, b2⟩ := hx _ (getD_mem 0 hi)
    have hpos : 0 < xs.getD i 0 := by omega
    have h2 : (-(xs.getD i 0)) % P = P - xs.getD i 0 := by
      rw [show -(xs.getD i 0) = (P - xs.getD i 0) + P * (-1) by omega, Int.add_mul_emod_self_left]
      exact Int.emod_eq_of_lt (by omega) (by omega)
    rw [h2] at h1
    have : P = 2 * xs.getD i 0 := by omega
    have hP : P = 3 ∨ P = 5 ∨ P = 7 ∨ P = 11 ∨ P = 13 := by simp [isP] at hp; omega
    omega
  · intro h
    apply list_ext_getD 0 (by unfold invoL; rw [sgnL_len])
    intro i hi
    unfold invoL
    rw [sgnL_getD hi]
    by_cases hod : oddT (pc i) = true
    · rw [if_pos hod]
      by_cases h0 : xs.getD i 0 = 0
      · rw [h0]; simp
      · have := h _ ((gradesL_mem xs hl64 _).2 ⟨i, hi, h0, rfl⟩)
        have h1 : pc i % 2 = 1 := beq_iff_eq.1 hod
        exact absurd (beq_iff_eq.2 (by omega)) this
    · rw [if_neg hod]
set_option maxHeartbeats 800000 in
theorem l04Even_any (P : Int) (A : Option Addr) (n c : Nat) (X : Option Addr) (cx : Nat) (xs : List Int) (w : World) (HP : isP P = true) (hn : n ≤ 6) (hx : Rd w X (pw n) (ints xs)) (hxs : NumsL P xs) :
    Calls Tryz.prog 179 #[.agg #[.int .i64 P, .slice A n c], .slice X (pw n) cx] w fun e w' => e = .returned (.bool (evenL xs)) ∧ Below w.heap.size w w' := by
  have hpp := isP_ge HP
  have HE := Lib.hid (evenL_invo HP hn hx.lenI hxs)
  have hB0 : Below w.heap.size w (w.alloc (.cells #[.int .i64 P, .slice A n c] 26)) := (Below.refl _ w).alloc (Nat.le_refl _) _
  have HPW64 : pw n ≤ 64 := pw_le hn
  go_enter Tryz.func179, Tryz.ntmps179
  go_wp2_with fail
  refine (l04Involute_any P A n c X (pw n) cx xs _ (by omega) (by omega) HPW64 (hx.below hB0) hxs).mono ?_
  rintro e w1 ⟨A', c', rfl, hM⟩
  have hB1 := hB0.trans (hM.b.mono (by simp))
  go_wp2_with fail
  refine (l01Same_any _ _ _ _ _ _ _ _ _ (by omega) (by omega) (hx.below hB1) hM.rd).mono ?_
  rintro e w2 ⟨rfl, j, rfl⟩
  rw [HE.out]
  go_wp2
  go_ret
  exact ⟨rfl, below_drewN hB1 _⟩
end Go.Proofs.YtggigolkncckoaaGreat
