/-
  Brackets and halves of multivectors: the program's functions.
-/
import Derived.Test.YtgfgnpdnppggeaaGreatPlus
import Derived.Test.YtgfgnpdnppggeaaGreatMul
namespace Go.Proofs.YtgfgnpdnppggeaaGreat
open Go.RowKit

theorem timesL_nums {p : Int} (hp : 2 ≤ p) (sq : List Int) (n : Nat) (xss : List (List Int)) : NumsL p (timesL p sq n xss) := by
  unfold timesL
  suffices h : ∀ (xss : List (List Int)) (o : List Int), NumsL p o → NumsL p (xss.foldl (mulL p sq) o) from h xss _ (bladeL_nums hp n 0)
  intro xss
  induction xss with
  | nil => intro o h; exact h
  | cons x r ih => intro o _; exact ih _ (prodL_nums sq _ _ _ (by omega))
theorem timesL_len (p : Int) (sq : List Int) (n : Nat) (xss : List (List Int)) : (timesL p sq n xss).length = pw n := by
  unfold timesL
  suffices h : ∀ (xss : List (List Int)) (o : List Int), (xss.foldl (mulL p sq) o).length = o.length from by rw [h, bladeL_len]
  intro xss
  induction xss with
  | nil => intro o; rfl
  | cons x r ih => intro o; rw [List.foldl_cons, ih]; exact prodL_len _ _ _ _ _

/-- The bracket. -/
def brkL (p : Int) (sq : List Int) (n : Nat) (xs ys : List Int) : List Int := plusL p (timesL p sq n [xs, ys]) (timesL p sq n [ys, xs]) (-1)

set_option maxHeartbeats 1600000 in
set_option maxRecDepth 8000 in
theorem bracket_any (P : Int) (A : Option Addr) (n c : Nat) (sq : List Int) (X : Option Addr) (cx : Nat) (xs : List Int) (Y : Option Addr) (cy : Nat) (ys : List Int) (w : World) (hp : 2 ≤ P) (hp2 : P ≤ 13) (hn : n ≤ 6)
    (ha : Rd w A n (ints sq)) (hs : NumsL P sq) (hx : Rd w X (pw n) (ints xs)) (hxs : NumsL P xs) (hcx : pw n ≤ cx) (hy : Rd w Y (pw n) (ints ys)) (hys : NumsL P ys) (hcy : pw n ≤ cy) :
    Calls Tryz.prog 116 #[.agg #[.int .i64 P, .slice A n c], .slice X (pw n) cx, .slice Y (pw n) cy] w fun e w' => ∃ A' c', e = .returned (.slice A' (pw n) c') ∧ MkI w w' A' (pw n) c' (brkL P sq n xs ys) := by
  have hB0 : Below w.heap.size w (w.alloc (.cells #[.int .i64 P, .slice A n c] 28)) := (Below.refl _ w).alloc (Nat.le_refl _) _
  have k0 : Blk (w.alloc (.cells #[.int .i64 P, .slice A n c] 28)) w.heap.size 28 #[.int .i64 P, .slice A n c] := Blk.new _ _ _
  have e1 : xs.length = pw n := by have := hx.1; rwa [ints_length] at this
  have e2 : ys.length = pw n := by have := hy.1; rwa [ints_length] at this
  have HL1 : ∀ z ∈ [xs, ys], NumsL P z ∧ z.length = pw n := all_two ⟨hxs, e1⟩ ⟨hys, e2⟩
  have HL2 : ∀ z ∈ [ys, xs], NumsL P z ∧ z.length = pw n := all_two ⟨hys, e2⟩ ⟨hxs, e1⟩
  have HN1 := timesL_nums hp sq n [xs, ys]
  have HN2 := timesL_nums hp sq n [ys, xs]
  have HPW : pw n ≤ 65536 := Nat.le_trans (pw_le (show n ≤ 10 by omega)) (by decide)
  clear e1 e2
  go_enter Tryz.func116, Tryz.ntmps116
  go_wp2

  refine wp_obs 14 [[], [0], [], [], [], [3, 4], [2, 3, 4, 5], [], [], [], [8, 9], [7, 8, 9, 10], [0, 1, 2, 3, 4, 5, 6, 7, 8, 9, 10, 11], [0, 1, 2, 3, 4, 5, 6, 7, 8, 9, 10, 11, 12]] [VIs (.agg #[.int .i64 P, .slice A n c]), VIs (.int .i64 P), VIs (.agg #[.int .i64 P, .slice A n c]), VIs (.slice X (pw n) cx), VIs (.slice Y (pw n) cy), VRow 2 [xs, ys], VSl w (pw n) (timesL P sq n [xs, ys]), VIs (.agg #[.int .i64 P, .slice A n c]), VIs (.slice Y (pw n) cy), VIs (.slice X (pw n) cx), VRow 2 [ys, xs], VSl w (pw n) (timesL P sq n [ys, xs]), VSl w (pw n) (brkL P sq n xs ys), VSl w (pw n) (brkL P sq n xs ys)] (fun w' => Blk w' w.heap.size 28 #[.int .i64 P, .slice A n c] ∧ Below w.heap.size w w') (by kernel_rfl) (by kernel_rfl) (fun _ _ h hb => ⟨h.1.below hb h.1.lt, h.2.trans (hb.mono h.2.size)⟩) (⟨k0.drew, hB0.drew⟩) (fun x => ?_)
  refine obs_step (Eq.trans (by simp only [List.getElem?_toArray, List.getElem?_cons_zero]; exact rfl) rfl) rfl (fun w' hS hV K hK => ?_) ?_
  · obtain ⟨q0, q1⟩ := hS.1.two
    go_simp
    exact hK.out _ _ _ rfl rfl rfl (Below.refl _ _)
  simp only [List.setIfInBounds_toArray, List.set_cons_zero, List.set_cons_succ]
  refine obs_step (Eq.trans (by simp only [List.getElem?_toArray, List.getElem?_cons_succ, List.getElem?_cons_zero]; exact rfl) rfl) rfl (fun w' hS hV K hK => ?_) ?_
  · simp only [List.mem_cons, List.not_mem_nil, or_false, forall_eq, List.getD_cons_succ, List.getD_cons_zero, VIs, VSl, VRow, VAny] at hV
    obtain e0 := hV
    obtain ⟨q0, q1⟩ := hS.1.two
    go_simp
    refine (field_any _ _ _ _ _).mono ?_
    rintro e w1 ⟨rfl, hb⟩
    exact hK.out _ _ _ rfl rfl rfl hb
  simp only [List.setIfInBounds_toArray, List.set_cons_zero, List.set_cons_succ]
  refine obs_step (Eq.trans (by simp only [List.getElem?_toArray, List.getElem?_cons_succ, List.getElem?_cons_zero]; exact rfl) rfl) rfl (fun w' hS hV K hK => ?_) ?_
  · obtain ⟨q0, q1⟩ := hS.1.two
    go_simp
    exact hK.out _ _ _ rfl rfl rfl (Below.refl _ _)
  simp only [List.setIfInBounds_toArray, List.set_cons_zero, List.set_cons_succ]
  refine obs_step (Eq.trans (by simp only [List.getElem?_toArray, List.getElem?_cons_succ, List.getElem?_cons_zero]; exact rfl) rfl) rfl (fun w' hS hV K hK => ?_) ?_
  · obtain ⟨q0, q1⟩ := hS.1.two
    go_simp
    exact hK.out _ _ _ rfl rfl rfl (Below.refl _ _)
  simp only [List.setIfInBounds_toArray, List.set_cons_zero, List.set_cons_succ]
  refine obs_step (Eq.trans (by simp only [List.getElem?_toArray, List.getElem?_cons_succ, List.getElem?_cons_zero]; exact rfl) rfl) rfl (fun w' hS hV K hK => ?_) ?_
  · obtain ⟨q0, q1⟩ := hS.1.two
    go_simp
    exact hK.out _ _ _ rfl rfl rfl (Below.refl _ _)
  simp only [List.setIfInBounds_toArray, List.set_cons_zero, List.set_cons_succ]
  refine obs_step (Eq.trans (by simp only [List.getElem?_toArray, List.getElem?_cons_succ, List.getElem?_cons_zero]; exact rfl) rfl) rfl (fun w' hS hV K hK => ?_) ?_
  · simp only [List.mem_cons, List.not_mem_nil, or_false, forall_eq_or_imp, forall_eq, List.getD_cons_succ, List.getD_cons_zero, VIs, VSl, VRow, VAny] at hV
    obtain ⟨e3, e4⟩ := hV
    obtain ⟨q0, q1⟩ := hS.1.two
    go_simp
    exact hK.out _ _ _ rfl rfl ⟨_, _, rfl, rdII_two (Blk.new _ _ _) ((hx.below hS.2).below (Below.refl _ _ |>.alloc (Nat.le_refl _) _)) ((hy.below hS.2).below (Below.refl _ _ |>.alloc (Nat.le_refl _) _)) hcx hcy⟩ ((Below.refl _ _).alloc (Nat.le_refl _) _)
  simp only [List.setIfInBounds_toArray, List.set_cons_zero, List.set_cons_succ]
  refine obs_step (Eq.trans (by simp only [List.getElem?_toArray, List.getElem?_cons_succ, List.getElem?_cons_zero]; exact rfl) rfl) rfl (fun w' hS hV K hK => ?_) ?_
  · simp only [List.mem_cons, List.not_mem_nil, or_false, forall_eq_or_imp, forall_eq, List.getD_cons_succ, List.getD_cons_zero, VIs, VSl, VRow, VAny] at hV
    obtain ⟨e2, e3, e4, ⟨A5, c5, e5, h5⟩⟩ := hV
    obtain ⟨q0, q1⟩ := hS.1.two
    go_simp
    refine (times_any P A n c sq _ 2 _ [xs, ys] _ hp hp2 hn (by omega) (ha.below hS.2) hs h5 HL1).mono ?_
    rintro e w1 ⟨A2, c2, rfl, hM⟩
    exact hK.out _ _ _ rfl rfl ⟨_, _, rfl, hM.after hS.2⟩ hM.b
  simp only [List.setIfInBounds_toArray, List.set_cons_zero, List.set_cons_succ]
  refine obs_step (Eq.trans (by simp only [List.getElem?_toArray, List.getElem?_cons_succ, List.getElem?_cons_zero]; exact rfl) rfl) rfl (fun w' hS hV K hK => ?_) ?_
  · obtain ⟨q0, q1⟩ := hS.1.two
    go_simp
    exact hK.out _ _ _ rfl rfl rfl (Below.refl _ _)
  simp only [List.setIfInBounds_toArray, List.set_cons_zero, List.set_cons_succ]
  refine obs_step (Eq.trans (by simp only [List.getElem?_toArray, List.getElem?_cons_succ, List.getElem?_cons_zero]; exact rfl) rfl) rfl (fun w' hS hV K hK => ?_) ?_
  · obtain ⟨q0, q1⟩ := hS.1.two
    go_simp
    exact hK.out _ _ _ rfl rfl rfl (Below.refl _ _)
  simp only [List.setIfInBounds_toArray, List.set_cons_zero, List.set_cons_succ]
  refine obs_step (Eq.trans (by simp only [List.getElem?_toArray, List.getElem?_cons_succ, List.getElem?_cons_zero]; exact rfl) rfl) rfl (fun w' hS hV K hK => ?_) ?_
  · obtain ⟨q0, q1⟩ := hS.1.two
    go_simp
    exact hK.out _ _ _ rfl rfl rfl (Below.refl _ _)
  simp only [List.setIfInBounds_toArray, List.set_cons_zero, List.set_cons_succ]
  refine obs_step (Eq.trans (by simp only [List.getElem?_toArray, List.getElem?_cons_succ, List.getElem?_cons_zero]; exact rfl) rfl) rfl (fun w' hS hV K hK => ?_) ?_
  · simp only [List.mem_cons, List.not_mem_nil, or_false, forall_eq_or_imp, forall_eq, List.getD_cons_succ, List.getD_cons_zero, VIs, VSl, VRow, VAny] at hV
    obtain ⟨e8, e9⟩ := hV
    obtain ⟨q0, q1⟩ := hS.1.two
    go_simp
    exact hK.out _ _ _ rfl rfl ⟨_, _, rfl, rdII_two (Blk.new _ _ _) ((hy.below hS.2).below (Below.refl _ _ |>.alloc (Nat.le_refl _) _)) ((hx.below hS.2).below (Below.refl _ _ |>.alloc (Nat.le_refl _) _)) hcy hcx⟩ ((Below.refl _ _).alloc (Nat.le_refl _) _)
  simp only [List.setIfInBounds_toArray, List.set_cons_zero, List.set_cons_succ]
  refine obs_step (Eq.trans (by simp only [List.getElem?_toArray, List.getElem?_cons_succ, List.getElem?_cons_zero]; exact rfl) rfl) rfl (fun w' hS hV K hK => ?_) ?_
  · simp only [List.mem_cons, List.not_mem_nil, or_false, forall_eq_or_imp, forall_eq, List.getD_cons_succ, List.getD_cons_zero, VIs, VSl, VRow, VAny] at hV
    obtain ⟨e7, e8, e9, ⟨A10, c10, e10, h10⟩⟩ := hV
    obtain ⟨q0, q1⟩ := hS.1.two
    go_simp
    refine (times_any P A n c sq _ 2 _ [ys, xs] _ hp hp2 hn (by omega) (ha.below hS.2) hs h10 HL2).mono ?_
    rintro e w1 ⟨A2, c2, rfl, hM⟩
    exact hK.out _ _ _ rfl rfl ⟨_, _, rfl, hM.after hS.2⟩ hM.b
  simp only [List.setIfInBounds_toArray, List.set_cons_zero, List.set_cons_succ]
  refine obs_step (Eq.trans (by simp only [List.getElem?_toArray, List.getElem?_cons_succ, List.getElem?_cons_zero]; exact rfl) rfl) rfl (fun w' hS hV K hK => ?_) ?_
  · simp only [List.mem_cons, List.not_mem_nil, or_false, forall_eq_or_imp, forall_eq, List.getD_cons_succ, List.getD_cons_zero, VIs, VSl, VRow, VAny] at hV
    obtain ⟨e0, e1, e2, e3, e4, ⟨A5, c5, e5, h5⟩, ⟨A6, c6, e6, h6⟩, e7, e8, e9, ⟨A10, c10, e10, h10⟩, ⟨A11, c11, e11, h11⟩⟩ := hV
    obtain ⟨q0, q1⟩ := hS.1.two
    go_simp
    refine (plus_any P _ _ _ _ _ _ _ _ _ _ hp hp2 HPW (Nat.le_refl _) h6.rd HN1 h11.rd HN2 (by omega) (by omega)).mono ?_
    rintro e w1 ⟨A2, c2, rfl, hM⟩
    exact hK.out _ _ _ rfl rfl ⟨_, _, rfl, hM.after hS.2⟩ hM.b
  simp only [List.setIfInBounds_toArray, List.set_cons_zero, List.set_cons_succ]
  refine obs_step (Eq.trans (by simp only [List.getElem?_toArray, List.getElem?_cons_succ, List.getElem?_cons_zero]; exact rfl) rfl) rfl (fun w' hS hV K hK => ?_) ?_
  · simp only [List.mem_cons, List.not_mem_nil, or_false, forall_eq_or_imp, forall_eq, List.getD_cons_succ, List.getD_cons_zero, VIs, VSl, VRow, VAny] at hV
    obtain ⟨e0, e1, e2, e3, e4, ⟨A5, c5, e5, h5⟩, ⟨A6, c6, e6, h6⟩, e7, e8, e9, ⟨A10, c10, e10, h10⟩, ⟨A11, c11, e11, h11⟩, ⟨A12, c12, e12, h12⟩⟩ := hV
    obtain ⟨q0, q1⟩ := hS.1.two
    go_simp
    exact hK.out _ _ _ rfl rfl ⟨_, _, rfl, h12⟩ (Below.refl _ _)
  simp only [List.setIfInBounds_toArray, List.set_cons_zero, List.set_cons_succ]
  refine fun w' hS hV => ?_
  have hV := fun i hi => hV i (List.mem_range.1 hi)
  simp only [List.range, List.range.loop, List.mem_cons, List.not_mem_nil, or_false, forall_eq_or_imp, forall_eq, List.getD_cons_succ, List.getD_cons_zero, VIs, VSl, VRow, VAny] at hV
  obtain ⟨e0, e1, e2, e3, e4, ⟨A5, c5, e5, h5⟩, ⟨A6, c6, e6, h6⟩, e7, e8, e9, ⟨A10, c10, e10, h10⟩, ⟨A11, c11, e11, h11⟩, ⟨A12, c12, e12, h12⟩, ⟨A13, c13, e13, h13⟩⟩ := hV
  simp only [e0, e1, e2, e3, e4, e5, e6, e7, e8, e9, e10, e11, e12, e13]
  clear e0 e1 e2 e3 e4 e5 e6 e7 e8 e9 e10 e11 e12 e13
  refine wpAny_done (by kernel_rfl) ?_ _
  go_wp2
  go_ret
  exact ⟨_, _, rfl, h13⟩

end Go.Proofs.YtgfgnpdnppggeaaGreat
