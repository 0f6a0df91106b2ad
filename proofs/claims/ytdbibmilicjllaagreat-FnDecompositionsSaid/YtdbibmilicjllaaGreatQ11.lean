/-
  LawFnDecompositions: part 11 of the texts that the proof needs. No condition.
-/
import Derived.Test.YtdbibmilicjllaaGreatQ10
namespace Go.Proofs.YtdbibmilicjllaaGreat
open Go.RowKit
set_option maxHeartbeats 3200000 in
set_option maxRecDepth 8000 in
theorem isIsometry_0 (P : Int) (A : Option Addr) (n c : Nat) (sq : List Int) (D : Option Addr) (r d : Nat) (M : List (List Int)) (m : Nat) (w : World) (hp0 : 0 < P) (hp1 : P ≤ 13) (hr0 : 0 < r) (hr : r ≤ 16) (hm1 : 1 ≤ m) (hm : m ≤ 16) (hd : RdII w D r M) (hM : Rect m M) (hb : (M.all fun r => nums P r) = false) :
    Calls Tryz.prog 147 #[.agg #[.int .i64 P, .slice A n c], .agg #[.int .i64 P, .slice A n c], .slice D r d] w fun e w' => e = .returned (.bool false) ∧ Below w.heap.size w w' := by
  have t7 : (P != P) = false := by simp
  have t6 : ((n : Int) != (n : Int)) = false := by simp
  have hB0 : Below w.heap.size w ((w.alloc (.cells #[.int .i64 P, .slice A n c] 26)).alloc (.cells #[.int .i64 P, .slice A n c] 26)) := ((Below.refl _ _).alloc (Nat.le_refl _) _).alloc (by simp) _
  have k0 : Blk ((w.alloc (.cells #[.int .i64 P, .slice A n c] 26)).alloc (.cells #[.int .i64 P, .slice A n c] 26)) w.heap.size 26 #[.int .i64 P, .slice A n c] := (Blk.new _ _ _).alloc _
  have k1 : Blk ((w.alloc (.cells #[.int .i64 P, .slice A n c] 26)).alloc (.cells #[.int .i64 P, .slice A n c] 26)) (w.heap.size + 1) 26 #[.int .i64 P, .slice A n c] := Blk.newAt3 (by simp)
  have HIM := Lib.hid fun w' (h : Below w.heap.size w w') => isMatrix_any P D r d M m w' hp0 hp1 hr0 hr hm1 hm (hd.below h) hM
  rw [hb] at HIM
  obtain ⟨g, o, rfl, hx0, A0, c0, hc0, -, -⟩ := (hd.below hB0).at_ hr0
  rw [hM M[0] (List.getElem_mem hx0), Nat.add_zero] at hc0
  clear hM hd hb
  obtain ⟨q0, q1⟩ := k0.two
  obtain ⟨q2, q3⟩ := k1.two
  go_enter Tryz.func147, Tryz.ntmps147
  go_wp2
  refine wp_obs 42 [[], [0], [], [2], [0, 1, 2, 3], [0, 1, 2, 3, 4], [0, 1, 2, 3, 4, 5], [0, 1, 2, 3, 4, 5, 6], [0, 1, 2, 3, 4, 5], [0, 1, 2, 3, 4, 5, 8], [0, 1, 2, 3, 4, 5, 6, 7, 8, 9], [0, 1, 2, 3, 4, 5, 6, 7, 8, 9, 10], [0, 1, 2, 3, 4, 5, 6, 7, 8, 9, 10, 11], [0, 1, 2, 3, 4, 5, 6, 7, 8, 9, 10, 11, 12], [0, 1, 2, 3, 4, 5, 6, 7, 8, 9, 10, 11, 12, 13], [0, 1, 2, 3, 4, 5, 6, 7, 8, 9, 10, 11, 12], [0, 1, 2, 3, 4, 5, 6, 7, 8, 9, 10, 11, 12, 13, 14, 15], [0, 1, 2, 3, 4, 5, 6, 7, 8, 9, 10, 11, 12, 13, 14, 15, 16], [0, 1, 2, 3, 4, 5, 6, 7, 8, 9, 10, 11, 12, 13, 14, 15, 16, 17], [0, 1, 2, 3, 4, 5, 6, 7, 8, 9, 10, 11, 12, 13, 14, 15, 16, 17, 18], [0, 1, 2, 3, 4, 5, 6, 7, 8, 9, 10, 11, 12, 13, 14, 15, 16, 17, 18, 19], [0, 1, 2, 3, 4, 5, 6, 7, 8, 9, 10, 11, 12, 13, 14, 15, 16, 17, 18, 19, 20], [0, 1, 2, 3, 4, 5, 6, 7, 8, 9, 10, 11, 12, 13, 14, 15, 16, 17, 18, 19], [0, 1, 2, 3, 4, 5, 6, 7, 8, 9, 10, 11, 12, 13, 14, 15, 16, 17, 18, 19, 22], [0, 1, 2, 3, 4, 5, 6, 7, 8, 9, 10, 11, 12, 13, 14, 15, 16, 17, 18, 19, 20, 21, 22, 23], [0, 1, 2, 3, 4, 5, 6, 7, 8, 9, 10, 11, 12, 13, 14, 15, 16, 17, 18, 19, 20, 21, 22, 23, 24], [0, 1, 2, 3, 4, 5, 6, 7, 8, 9, 10, 11, 12, 13, 14, 15, 16, 17, 18, 19, 20, 21, 22, 23, 24, 25], [0, 1, 2, 3, 4, 5, 6, 7, 8, 9, 10, 11, 12, 13, 14, 15, 16, 17, 18, 19, 20, 21, 22, 23, 24, 25, 26], [0, 1, 2, 3, 4, 5, 6, 7, 8, 9, 10, 11, 12, 13, 14, 15, 16, 17, 18, 19, 20, 21, 22, 23, 24, 25, 26, 27], [0, 1, 2, 3, 4, 5, 6, 7, 8, 9, 10, 11, 12, 13, 14, 15, 16, 17, 18, 19, 20, 21, 22, 23, 24, 25, 26, 27, 28], [0, 1, 2, 3, 4, 5, 6, 7, 8, 9, 10, 11, 12, 13, 14, 15, 16, 17, 18, 19, 20, 21, 22, 23, 24, 25, 26, 27, 28, 29], [0, 1, 2, 3, 4, 5, 6, 7, 8, 9, 10, 11, 12, 13, 14, 15, 16, 17, 18, 19, 20, 21, 22, 23, 24, 25, 26], [0, 1, 2, 3, 4, 5, 6, 7, 8, 9, 10, 11, 12, 13, 14, 15, 16, 17, 18, 19, 20, 21, 22, 23, 24, 25, 26, 31], [0, 1, 2, 3, 4, 5, 6, 7, 8, 9, 10, 11, 12, 13, 14, 15, 16, 17, 18, 19, 20, 21, 22, 23, 24, 25, 26, 27, 28, 29, 30, 31, 32], [0, 1, 2, 3, 4, 5, 6, 7, 8, 9, 10, 11, 12, 13, 14, 15, 16, 17, 18, 19, 20, 21, 22, 23, 24, 25, 26, 27, 28, 29, 30, 31, 32, 33], [0, 1, 2, 3, 4, 5, 6, 7, 8, 9, 10, 11, 12, 13, 14, 15, 16, 17, 18, 19, 20, 21, 22, 23, 24, 25, 26, 27, 28, 29, 30, 31, 32, 33, 34], [0, 1, 2, 3, 4, 5, 6, 7, 8, 9, 10, 11, 12, 13, 14, 15, 16, 17, 18, 19, 20, 21, 22, 23, 24, 25, 26, 27, 28, 29, 30, 31, 32, 33, 34, 35], [0, 1, 2, 3, 4, 5, 6, 7, 8, 9, 10, 11, 12, 13, 14, 15, 16, 17, 18, 19, 20, 21, 22, 23, 24, 25, 26, 27, 28, 29, 30, 31, 32, 33, 34, 35, 36], [0, 1, 2, 3, 4, 5, 6, 7, 8, 9, 10, 11, 12, 13, 14, 15, 16, 17, 18, 19, 20, 21, 22, 23, 24, 25, 26, 27, 28, 29, 30, 31, 32, 33, 34, 35], [0, 1, 2, 3, 4, 5, 6, 7, 8, 9, 10, 11, 12, 13, 14, 15, 16, 17, 18, 19, 20, 21, 22, 23, 24, 25, 26, 27, 28, 29, 30, 31, 32, 33, 34, 35, 36, 37, 38], [0, 1, 2, 3, 4, 5, 6, 7, 8, 9, 10, 11, 12, 13, 14, 15, 16, 17, 18, 19, 20, 21, 22, 23, 24, 25, 26, 27, 28, 29, 30, 31, 32, 33, 34, 35, 36, 37, 38, 39], [0, 1, 2, 3, 4, 5, 6, 7, 8, 9, 10, 11, 12, 13, 14, 15, 16, 17, 18, 19, 20, 21, 22, 23, 24, 25, 26, 27, 28, 29, 30, 31, 32, 33, 34, 35, 36, 37, 38, 39, 40]] [VIs (.pointer (some ⟨w.heap.size, 0, none⟩)), VIs (.int .i64 (P)), VIs (.pointer (some ⟨w.heap.size + 1, 0, none⟩)), VIs (.int .i64 (P)), VIs (.bool false), VIs (.bool false), VIs (.agg #[.int .i64 P, .slice A n c]), VIs (.int .i64 (n)), VIs (.agg #[.int .i64 P, .slice A n c]), VIs (.int .i64 (n)), VIs (.bool false), VIs (.bool false), VIs (.bool false), VIs (.agg #[.int .i64 P, .slice A n c]), VIs (.int .i64 (P)), VIs (.slice (some ⟨g, o, none⟩) r d), VIs (.bool false), VIs (.bool true), VIs (.bool true), VIs (.bool true), VIs undef, VIs undef, VIs undef, VIs undef, VIs undef, VIs (.bool true), VIs (.bool true), VIs undef, VIs undef, VIs undef, VIs undef, VIs undef, VIs undef, VIs undef, VIs (.bool true), VIs (.bool true), VIs undef, VIs undef, VIs undef, VIs undef, VIs undef, VIs (.bool true)] (fun w' => w'.cell? ⟨g, o, none⟩ = some (.slice A0 m c0) ∧ Blk w' w.heap.size 26 #[.int .i64 P, .slice A n c] ∧ Blk w' (w.heap.size + 1) 26 #[.int .i64 P, .slice A n c] ∧ Below w.heap.size w w') (by kernel_rfl) (by kernel_rfl) (fun _ _ h hb => ⟨(hb.cell (World.block_lt_of_cell? _ _ h.1)).trans h.1, h.2.1.below hb h.2.1.lt, h.2.2.1.below hb h.2.2.1.lt, h.2.2.2.trans (hb.mono h.2.2.2.size)⟩) (⟨hc0, k0.drew, k1.drew, hB0.drew⟩) (fun x => ?_)
  refine obs_step (Eq.trans (by simp only [zA, zC]; exact rfl) rfl) rfl (fun w' hS hV K hK => ?_) ?_
  · have q9 := hS.1; obtain ⟨q0, q1⟩ := hS.2.1.two; obtain ⟨q2, q3⟩ := hS.2.2.1.two
    go_simp
    exact hK.out _ _ _ rfl rfl rfl (Below.refl _ _)
  simp only [zD, zE, zF]
  refine obs_step (Eq.trans (by simp only [zA, zB, zC]; exact rfl) rfl) rfl (fun w' hS hV K hK => ?_) ?_
  · have e0 : x 0 = (.pointer (some ⟨w.heap.size, 0, none⟩)) := hV 0 (by decide)
    have q9 := hS.1; obtain ⟨q0, q1⟩ := hS.2.1.two; obtain ⟨q2, q3⟩ := hS.2.2.1.two
    go_simp
    exact hK.out _ _ _ rfl rfl rfl (Below.refl _ _)
  simp only [zD, zE, zF]
  refine obs_step (Eq.trans (by simp only [zA, zB, zC]; exact rfl) rfl) rfl (fun w' hS hV K hK => ?_) ?_
  · have q9 := hS.1; obtain ⟨q0, q1⟩ := hS.2.1.two; obtain ⟨q2, q3⟩ := hS.2.2.1.two
    go_simp
    exact hK.out _ _ _ rfl rfl rfl (Below.refl _ _)
  simp only [zD, zE, zF]
  refine obs_step (Eq.trans (by simp only [zA, zB, zC]; exact rfl) rfl) rfl (fun w' hS hV K hK => ?_) ?_
  · have e2 : x 2 = (.pointer (some ⟨w.heap.size + 1, 0, none⟩)) := hV 2 (by decide)
    have q9 := hS.1; obtain ⟨q0, q1⟩ := hS.2.1.two; obtain ⟨q2, q3⟩ := hS.2.2.1.two
    go_simp
    exact hK.out _ _ _ rfl rfl rfl (Below.refl _ _)
  simp only [zD, zE, zF]
  refine obs_step (Eq.trans (by simp only [zA, zB, zC]; exact rfl) rfl) rfl (fun w' hS hV K hK => ?_) ?_
  · have e1 : x 1 = (.int .i64 (P)) := hV 1 (by decide)
    have e3 : x 3 = (.int .i64 (P)) := hV 3 (by decide)
    have q9 := hS.1; obtain ⟨q0, q1⟩ := hS.2.1.two; obtain ⟨q2, q3⟩ := hS.2.2.1.two
    go_simp
    exact hK.out _ _ _ rfl rfl rfl (Below.refl _ _)
  simp only [zD, zE, zF]
  refine obs_step (Eq.trans (by simp only [zA, zB, zC]; exact rfl) rfl) rfl (fun w' hS hV K hK => ?_) ?_
  · have e4 : x 4 = (.bool false) := hV 4 (by decide)
    have q9 := hS.1; obtain ⟨q0, q1⟩ := hS.2.1.two; obtain ⟨q2, q3⟩ := hS.2.2.1.two
    go_simp
    exact hK.out _ _ _ rfl rfl rfl (Below.refl _ _)
  simp only [zD, zE, zF]
  refine obs_step (Eq.trans (by simp only [zA, zB, zC]; exact rfl) rfl) rfl (fun w' hS hV K hK => ?_) ?_
  · have e5 : x 5 = (.bool false) := hV 5 (by decide)
    have q9 := hS.1; obtain ⟨q0, q1⟩ := hS.2.1.two; obtain ⟨q2, q3⟩ := hS.2.2.1.two
    go_simp
    exact hK.out _ _ _ rfl rfl rfl (Below.refl _ _)
  simp only [zD, zE, zF]
  refine obs_step (Eq.trans (by simp only [zA, zB, zC]; exact rfl) rfl) rfl (fun w' hS hV K hK => ?_) ?_
  · have e5 : x 5 = (.bool false) := hV 5 (by decide)
    have e6 : x 6 = (.agg #[.int .i64 P, .slice A n c]) := hV 6 (by decide)
    have q9 := hS.1; obtain ⟨q0, q1⟩ := hS.2.1.two; obtain ⟨q2, q3⟩ := hS.2.2.1.two
    go_simp
    refine (dim_any _ _ _ _ _).mono ?_
    rintro e v1 ⟨rfl, hb⟩
    exact hK.out _ _ _ rfl rfl rfl hb
  simp only [zD, zE, zF]
  refine obs_step (Eq.trans (by simp only [zA, zB, zC]; exact rfl) rfl) rfl (fun w' hS hV K hK => ?_) ?_
  · have e5 : x 5 = (.bool false) := hV 5 (by decide)
    have q9 := hS.1; obtain ⟨q0, q1⟩ := hS.2.1.two; obtain ⟨q2, q3⟩ := hS.2.2.1.two
    go_simp
    exact hK.out _ _ _ rfl rfl rfl (Below.refl _ _)
  simp only [zD, zE, zF]
  refine obs_step (Eq.trans (by simp only [zA, zB, zC]; exact rfl) rfl) rfl (fun w' hS hV K hK => ?_) ?_
  · have e5 : x 5 = (.bool false) := hV 5 (by decide)
    have e8 : x 8 = (.agg #[.int .i64 P, .slice A n c]) := hV 8 (by decide)
    have q9 := hS.1; obtain ⟨q0, q1⟩ := hS.2.1.two; obtain ⟨q2, q3⟩ := hS.2.2.1.two
    go_simp
    refine (dim_any _ _ _ _ _).mono ?_
    rintro e v1 ⟨rfl, hb⟩
    exact hK.out _ _ _ rfl rfl rfl hb
  simp only [zD, zE, zF]
  refine obs_step (Eq.trans (by simp only [zA, zB, zC]; exact rfl) rfl) rfl (fun w' hS hV K hK => ?_) ?_
  · have e5 : x 5 = (.bool false) := hV 5 (by decide)
    have e7 : x 7 = (.int .i64 (n)) := hV 7 (by decide)
    have e9 : x 9 = (.int .i64 (n)) := hV 9 (by decide)
    have q9 := hS.1; obtain ⟨q0, q1⟩ := hS.2.1.two; obtain ⟨q2, q3⟩ := hS.2.2.1.two
    go_simp
    exact hK.out _ _ _ rfl rfl rfl (Below.refl _ _)
  simp only [zD, zE, zF]
  refine obs_step (Eq.trans (by simp only [zA, zB, zC]; exact rfl) rfl) rfl (fun w' hS hV K hK => ?_) ?_
  · have e5 : x 5 = (.bool false) := hV 5 (by decide)
    have e10 : x 10 = (.bool false) := hV 10 (by decide)
    have q9 := hS.1; obtain ⟨q0, q1⟩ := hS.2.1.two; obtain ⟨q2, q3⟩ := hS.2.2.1.two
    go_simp
    exact hK.out _ _ _ rfl rfl rfl (Below.refl _ _)
  simp only [zD, zE, zF]
  refine obs_step (Eq.trans (by simp only [zA, zB, zC]; exact rfl) rfl) rfl (fun w' hS hV K hK => ?_) ?_
  · have e11 : x 11 = (.bool false) := hV 11 (by decide)
    have q9 := hS.1; obtain ⟨q0, q1⟩ := hS.2.1.two; obtain ⟨q2, q3⟩ := hS.2.2.1.two
    go_simp
    exact hK.out _ _ _ rfl rfl rfl (Below.refl _ _)
  simp only [zD, zE, zF]
  refine obs_step (Eq.trans (by simp only [zA, zB, zC]; exact rfl) rfl) rfl (fun w' hS hV K hK => ?_) ?_
  · have e12 : x 12 = (.bool false) := hV 12 (by decide)
    have q9 := hS.1; obtain ⟨q0, q1⟩ := hS.2.1.two; obtain ⟨q2, q3⟩ := hS.2.2.1.two
    go_simp
    exact hK.out _ _ _ rfl rfl rfl (Below.refl _ _)
  simp only [zD, zE, zF]
  refine obs_step (Eq.trans (by simp only [zA, zB, zC]; exact rfl) rfl) rfl (fun w' hS hV K hK => ?_) ?_
  · have e12 : x 12 = (.bool false) := hV 12 (by decide)
    have e13 : x 13 = (.agg #[.int .i64 P, .slice A n c]) := hV 13 (by decide)
    have q9 := hS.1; obtain ⟨q0, q1⟩ := hS.2.1.two; obtain ⟨q2, q3⟩ := hS.2.2.1.two
    go_simp
    refine (field_any _ _ _ _ _).mono ?_
    rintro e v1 ⟨rfl, hb⟩
    exact hK.out _ _ _ rfl rfl rfl hb
  simp only [zD, zE, zF]
  refine obs_step (Eq.trans (by simp only [zA, zB, zC]; exact rfl) rfl) rfl (fun w' hS hV K hK => ?_) ?_
  · have e12 : x 12 = (.bool false) := hV 12 (by decide)
    have q9 := hS.1; obtain ⟨q0, q1⟩ := hS.2.1.two; obtain ⟨q2, q3⟩ := hS.2.2.1.two
    go_simp
    exact hK.out _ _ _ rfl rfl rfl (Below.refl _ _)
  simp only [zD, zE, zF]
  refine obs_step (Eq.trans (by simp only [zA, zB, zC]; exact rfl) rfl) rfl (fun w' hS hV K hK => ?_) ?_
  · have e12 : x 12 = (.bool false) := hV 12 (by decide)
    have e14 : x 14 = (.int .i64 (P)) := hV 14 (by decide)
    have e15 : x 15 = (.slice (some ⟨g, o, none⟩) r d) := hV 15 (by decide)
    have q9 := hS.1; obtain ⟨q0, q1⟩ := hS.2.1.two; obtain ⟨q2, q3⟩ := hS.2.2.1.two
    go_simp
    refine (HIM.out _ hS.2.2.2).mono ?_
    rintro e v1 ⟨rfl, rfl⟩
    exact hK.out _ _ _ rfl rfl rfl (Below.refl _ _)
  simp only [zD, zE, zF]
  refine obs_step (Eq.trans (by simp only [zA, zB, zC]; exact rfl) rfl) rfl (fun w' hS hV K hK => ?_) ?_
  · have e12 : x 12 = (.bool false) := hV 12 (by decide)
    have e16 : x 16 = (.bool false) := hV 16 (by decide)
    have q9 := hS.1; obtain ⟨q0, q1⟩ := hS.2.1.two; obtain ⟨q2, q3⟩ := hS.2.2.1.two
    go_simp
    exact hK.out _ _ _ rfl rfl rfl (Below.refl _ _)
  simp only [zD, zE, zF]
  refine obs_step (Eq.trans (by simp only [zA, zB, zC]; exact rfl) rfl) rfl (fun w' hS hV K hK => ?_) ?_
  · have e12 : x 12 = (.bool false) := hV 12 (by decide)
    have e17 : x 17 = (.bool true) := hV 17 (by decide)
    have q9 := hS.1; obtain ⟨q0, q1⟩ := hS.2.1.two; obtain ⟨q2, q3⟩ := hS.2.2.1.two
    go_simp
    exact hK.out _ _ _ rfl rfl rfl (Below.refl _ _)
  simp only [zD, zE, zF]
  refine obs_step (Eq.trans (by simp only [zA, zB, zC]; exact rfl) rfl) rfl (fun w' hS hV K hK => ?_) ?_
  · have e18 : x 18 = (.bool true) := hV 18 (by decide)
    have q9 := hS.1; obtain ⟨q0, q1⟩ := hS.2.1.two; obtain ⟨q2, q3⟩ := hS.2.2.1.two
    go_simp
    exact hK.out _ _ _ rfl rfl rfl (Below.refl _ _)
  simp only [zD, zE, zF]
  refine obs_step (Eq.trans (by simp only [zA, zB, zC]; exact rfl) rfl) rfl (fun w' hS hV K hK => ?_) ?_
  · have e19 : x 19 = (.bool true) := hV 19 (by decide)
    have q9 := hS.1; obtain ⟨q0, q1⟩ := hS.2.1.two; obtain ⟨q2, q3⟩ := hS.2.2.1.two
    go_simp
    exact hK.out _ _ _ rfl rfl rfl (Below.refl _ _)
  simp only [zD, zE, zF]
  refine obs_step (Eq.trans (by simp only [zA, zB, zC]; exact rfl) rfl) rfl (fun w' hS hV K hK => ?_) ?_
  · have e19 : x 19 = (.bool true) := hV 19 (by decide)
    have e20 : x 20 = undef := hV 20 (by decide)
    have q9 := hS.1; obtain ⟨q0, q1⟩ := hS.2.1.two; obtain ⟨q2, q3⟩ := hS.2.2.1.two
    go_simp
    exact hK.out _ _ _ rfl rfl rfl (Below.refl _ _)
  simp only [zD, zE, zF]
  refine obs_step (Eq.trans (by simp only [zA, zB, zC]; exact rfl) rfl) rfl (fun w' hS hV K hK => ?_) ?_
  · have e19 : x 19 = (.bool true) := hV 19 (by decide)
    have q9 := hS.1; obtain ⟨q0, q1⟩ := hS.2.1.two; obtain ⟨q2, q3⟩ := hS.2.2.1.two
    go_simp
    exact hK.out _ _ _ rfl rfl rfl (Below.refl _ _)
  simp only [zD, zE, zF]
  refine obs_step (Eq.trans (by simp only [zA, zB, zC]; exact rfl) rfl) rfl (fun w' hS hV K hK => ?_) ?_
  · have e19 : x 19 = (.bool true) := hV 19 (by decide)
    have e22 : x 22 = undef := hV 22 (by decide)
    have q9 := hS.1; obtain ⟨q0, q1⟩ := hS.2.1.two; obtain ⟨q2, q3⟩ := hS.2.2.1.two
    go_simp
    exact hK.out _ _ _ rfl rfl rfl (Below.refl _ _)
  simp only [zD, zE, zF]
  refine obs_step (Eq.trans (by simp only [zA, zB, zC]; exact rfl) rfl) rfl (fun w' hS hV K hK => ?_) ?_
  · have e19 : x 19 = (.bool true) := hV 19 (by decide)
    have e21 : x 21 = undef := hV 21 (by decide)
    have e23 : x 23 = undef := hV 23 (by decide)
    have q9 := hS.1; obtain ⟨q0, q1⟩ := hS.2.1.two; obtain ⟨q2, q3⟩ := hS.2.2.1.two
    go_simp
    exact hK.out _ _ _ rfl rfl rfl (Below.refl _ _)
  simp only [zD, zE, zF]
  refine obs_step (Eq.trans (by simp only [zA, zB, zC]; exact rfl) rfl) rfl (fun w' hS hV K hK => ?_) ?_
  · have e19 : x 19 = (.bool true) := hV 19 (by decide)
    have e24 : x 24 = undef := hV 24 (by decide)
    have q9 := hS.1; obtain ⟨q0, q1⟩ := hS.2.1.two; obtain ⟨q2, q3⟩ := hS.2.2.1.two
    go_simp
    exact hK.out _ _ _ rfl rfl rfl (Below.refl _ _)
  simp only [zD, zE, zF]
  refine obs_step (Eq.trans (by simp only [zA, zB, zC]; exact rfl) rfl) rfl (fun w' hS hV K hK => ?_) ?_
  · have e25 : x 25 = (.bool true) := hV 25 (by decide)
    have q9 := hS.1; obtain ⟨q0, q1⟩ := hS.2.1.two; obtain ⟨q2, q3⟩ := hS.2.2.1.two
    go_simp
    exact hK.out _ _ _ rfl rfl rfl (Below.refl _ _)
  simp only [zD, zE, zF]
  refine obs_step (Eq.trans (by simp only [zA, zB, zC]; exact rfl) rfl) rfl (fun w' hS hV K hK => ?_) ?_
  · have e26 : x 26 = (.bool true) := hV 26 (by decide)
    have q9 := hS.1; obtain ⟨q0, q1⟩ := hS.2.1.two; obtain ⟨q2, q3⟩ := hS.2.2.1.two
    go_simp
    exact hK.out _ _ _ rfl rfl rfl (Below.refl _ _)
  simp only [zD, zE, zF]
  refine obs_step (Eq.trans (by simp only [zA, zB, zC]; exact rfl) rfl) rfl (fun w' hS hV K hK => ?_) ?_
  · have e26 : x 26 = (.bool true) := hV 26 (by decide)
    have e27 : x 27 = undef := hV 27 (by decide)
    have q9 := hS.1; obtain ⟨q0, q1⟩ := hS.2.1.two; obtain ⟨q2, q3⟩ := hS.2.2.1.two
    go_simp
    exact hK.out _ _ _ rfl rfl rfl (Below.refl _ _)
  simp only [zD, zE, zF]
  refine obs_step (Eq.trans (by simp only [zA, zB, zC]; exact rfl) rfl) rfl (fun w' hS hV K hK => ?_) ?_
  · have e26 : x 26 = (.bool true) := hV 26 (by decide)
    have e28 : x 28 = undef := hV 28 (by decide)
    have q9 := hS.1; obtain ⟨q0, q1⟩ := hS.2.1.two; obtain ⟨q2, q3⟩ := hS.2.2.1.two
    go_simp
    exact hK.out _ _ _ rfl rfl rfl (Below.refl _ _)
  simp only [zD, zE, zF]
  refine obs_step (Eq.trans (by simp only [zA, zB, zC]; exact rfl) rfl) rfl (fun w' hS hV K hK => ?_) ?_
  · have e26 : x 26 = (.bool true) := hV 26 (by decide)
    have e29 : x 29 = undef := hV 29 (by decide)
    have q9 := hS.1; obtain ⟨q0, q1⟩ := hS.2.1.two; obtain ⟨q2, q3⟩ := hS.2.2.1.two
    go_simp
    exact hK.out _ _ _ rfl rfl rfl (Below.refl _ _)
  simp only [zD, zE, zF]
  refine obs_step (Eq.trans (by simp only [zA, zB, zC]; exact rfl) rfl) rfl (fun w' hS hV K hK => ?_) ?_
  · have e26 : x 26 = (.bool true) := hV 26 (by decide)
    have q9 := hS.1; obtain ⟨q0, q1⟩ := hS.2.1.two; obtain ⟨q2, q3⟩ := hS.2.2.1.two
    go_simp
    exact hK.out _ _ _ rfl rfl rfl (Below.refl _ _)
  simp only [zD, zE, zF]
  refine obs_step (Eq.trans (by simp only [zA, zB, zC]; exact rfl) rfl) rfl (fun w' hS hV K hK => ?_) ?_
  · have e26 : x 26 = (.bool true) := hV 26 (by decide)
    have e31 : x 31 = undef := hV 31 (by decide)
    have q9 := hS.1; obtain ⟨q0, q1⟩ := hS.2.1.two; obtain ⟨q2, q3⟩ := hS.2.2.1.two
    go_simp
    exact hK.out _ _ _ rfl rfl rfl (Below.refl _ _)
  simp only [zD, zE, zF]
  refine obs_step (Eq.trans (by simp only [zA, zB, zC]; exact rfl) rfl) rfl (fun w' hS hV K hK => ?_) ?_
  · have e26 : x 26 = (.bool true) := hV 26 (by decide)
    have e30 : x 30 = undef := hV 30 (by decide)
    have e32 : x 32 = undef := hV 32 (by decide)
    have q9 := hS.1; obtain ⟨q0, q1⟩ := hS.2.1.two; obtain ⟨q2, q3⟩ := hS.2.2.1.two
    go_simp
    exact hK.out _ _ _ rfl rfl rfl (Below.refl _ _)
  simp only [zD, zE, zF]
  refine obs_step (Eq.trans (by simp only [zA, zB, zC]; exact rfl) rfl) rfl (fun w' hS hV K hK => ?_) ?_
  · have e26 : x 26 = (.bool true) := hV 26 (by decide)
    have e33 : x 33 = undef := hV 33 (by decide)
    have q9 := hS.1; obtain ⟨q0, q1⟩ := hS.2.1.two; obtain ⟨q2, q3⟩ := hS.2.2.1.two
    go_simp
    exact hK.out _ _ _ rfl rfl rfl (Below.refl _ _)
  simp only [zD, zE, zF]
  refine obs_step (Eq.trans (by simp only [zA, zB, zC]; exact rfl) rfl) rfl (fun w' hS hV K hK => ?_) ?_
  · have e34 : x 34 = (.bool true) := hV 34 (by decide)
    have q9 := hS.1; obtain ⟨q0, q1⟩ := hS.2.1.two; obtain ⟨q2, q3⟩ := hS.2.2.1.two
    go_simp
    exact hK.out _ _ _ rfl rfl rfl (Below.refl _ _)
  simp only [zD, zE, zF]
  refine obs_step (Eq.trans (by simp only [zA, zB, zC]; exact rfl) rfl) rfl (fun w' hS hV K hK => ?_) ?_
  · have e35 : x 35 = (.bool true) := hV 35 (by decide)
    have q9 := hS.1; obtain ⟨q0, q1⟩ := hS.2.1.two; obtain ⟨q2, q3⟩ := hS.2.2.1.two
    go_simp
    exact hK.out _ _ _ rfl rfl rfl (Below.refl _ _)
  simp only [zD, zE, zF]
  refine obs_step (Eq.trans (by simp only [zA, zB, zC]; exact rfl) rfl) rfl (fun w' hS hV K hK => ?_) ?_
  · have e35 : x 35 = (.bool true) := hV 35 (by decide)
    have e36 : x 36 = undef := hV 36 (by decide)
    have q9 := hS.1; obtain ⟨q0, q1⟩ := hS.2.1.two; obtain ⟨q2, q3⟩ := hS.2.2.1.two
    go_simp
    exact hK.out _ _ _ rfl rfl rfl (Below.refl _ _)
  simp only [zD, zE, zF]
  refine obs_step (Eq.trans (by simp only [zA, zB, zC]; exact rfl) rfl) rfl (fun w' hS hV K hK => ?_) ?_
  · have e35 : x 35 = (.bool true) := hV 35 (by decide)
    have q9 := hS.1; obtain ⟨q0, q1⟩ := hS.2.1.two; obtain ⟨q2, q3⟩ := hS.2.2.1.two
    go_simp
    exact hK.out _ _ _ rfl rfl rfl (Below.refl _ _)
  simp only [zD, zE, zF]
  refine obs_step (Eq.trans (by simp only [zA, zB, zC]; exact rfl) rfl) rfl (fun w' hS hV K hK => ?_) ?_
  · have e35 : x 35 = (.bool true) := hV 35 (by decide)
    have e37 : x 37 = undef := hV 37 (by decide)
    have e38 : x 38 = undef := hV 38 (by decide)
    have q9 := hS.1; obtain ⟨q0, q1⟩ := hS.2.1.two; obtain ⟨q2, q3⟩ := hS.2.2.1.two
    go_simp
    exact hK.out _ _ _ rfl rfl rfl (Below.refl _ _)
  simp only [zD, zE, zF]
  refine obs_step (Eq.trans (by simp only [zA, zB, zC]; exact rfl) rfl) rfl (fun w' hS hV K hK => ?_) ?_
  · have e35 : x 35 = (.bool true) := hV 35 (by decide)
    have e39 : x 39 = undef := hV 39 (by decide)
    have q9 := hS.1; obtain ⟨q0, q1⟩ := hS.2.1.two; obtain ⟨q2, q3⟩ := hS.2.2.1.two
    go_simp
    exact hK.out _ _ _ rfl rfl rfl (Below.refl _ _)
  simp only [zD, zE, zF]
  refine obs_step (Eq.trans (by simp only [zA, zB, zC]; exact rfl) rfl) rfl (fun w' hS hV K hK => ?_) ?_
  · have e35 : x 35 = (.bool true) := hV 35 (by decide)
    have e40 : x 40 = undef := hV 40 (by decide)
    have q9 := hS.1; obtain ⟨q0, q1⟩ := hS.2.1.two; obtain ⟨q2, q3⟩ := hS.2.2.1.two
    go_simp
    exact hK.out _ _ _ rfl rfl rfl (Below.refl _ _)
  simp only [zD, zE, zF]
  refine fun w' hS hV => ?_
  have e0 : x 0 = (.pointer (some ⟨w.heap.size, 0, none⟩)) := hV 0 (by decide)
  have e1 : x 1 = (.int .i64 (P)) := hV 1 (by decide)
  have e2 : x 2 = (.pointer (some ⟨w.heap.size + 1, 0, none⟩)) := hV 2 (by decide)
  have e3 : x 3 = (.int .i64 (P)) := hV 3 (by decide)
  have e4 : x 4 = (.bool false) := hV 4 (by decide)
  have e5 : x 5 = (.bool false) := hV 5 (by decide)
  have e6 : x 6 = (.agg #[.int .i64 P, .slice A n c]) := hV 6 (by decide)
  have e7 : x 7 = (.int .i64 (n)) := hV 7 (by decide)
  have e8 : x 8 = (.agg #[.int .i64 P, .slice A n c]) := hV 8 (by decide)
  have e9 : x 9 = (.int .i64 (n)) := hV 9 (by decide)
  have e10 : x 10 = (.bool false) := hV 10 (by decide)
  have e11 : x 11 = (.bool false) := hV 11 (by decide)
  have e12 : x 12 = (.bool false) := hV 12 (by decide)
  have e13 : x 13 = (.agg #[.int .i64 P, .slice A n c]) := hV 13 (by decide)
  have e14 : x 14 = (.int .i64 (P)) := hV 14 (by decide)
  have e15 : x 15 = (.slice (some ⟨g, o, none⟩) r d) := hV 15 (by decide)
  have e16 : x 16 = (.bool false) := hV 16 (by decide)
  have e17 : x 17 = (.bool true) := hV 17 (by decide)
  have e18 : x 18 = (.bool true) := hV 18 (by decide)
  have e19 : x 19 = (.bool true) := hV 19 (by decide)
  have e20 : x 20 = undef := hV 20 (by decide)
  have e21 : x 21 = undef := hV 21 (by decide)
  have e22 : x 22 = undef := hV 22 (by decide)
  have e23 : x 23 = undef := hV 23 (by decide)
  have e24 : x 24 = undef := hV 24 (by decide)
  have e25 : x 25 = (.bool true) := hV 25 (by decide)
  have e26 : x 26 = (.bool true) := hV 26 (by decide)
  have e27 : x 27 = undef := hV 27 (by decide)
  have e28 : x 28 = undef := hV 28 (by decide)
  have e29 : x 29 = undef := hV 29 (by decide)
  have e30 : x 30 = undef := hV 30 (by decide)
  have e31 : x 31 = undef := hV 31 (by decide)
  have e32 : x 32 = undef := hV 32 (by decide)
  have e33 : x 33 = undef := hV 33 (by decide)
  have e34 : x 34 = (.bool true) := hV 34 (by decide)
  have e35 : x 35 = (.bool true) := hV 35 (by decide)
  have e36 : x 36 = undef := hV 36 (by decide)
  have e37 : x 37 = undef := hV 37 (by decide)
  have e38 : x 38 = undef := hV 38 (by decide)
  have e39 : x 39 = undef := hV 39 (by decide)
  have e40 : x 40 = undef := hV 40 (by decide)
  have e41 : x 41 = (.bool true) := hV 41 (by decide)
  simp only [e0, e1, e2, e3, e4, e5, e6, e7, e8, e9, e10, e11, e12, e13, e14, e15, e16, e17, e18, e19, e20, e21, e22, e23, e24, e25, e26, e27, e28, e29, e30, e31, e32, e33, e34, e35, e36, e37, e38, e39, e40, e41]
  clear e0 e1 e2 e3 e4 e5 e6 e7 e8 e9 e10 e11 e12 e13 e14 e15 e16 e17 e18 e19 e20 e21 e22 e23 e24 e25 e26 e27 e28 e29 e30 e31 e32 e33 e34 e35 e36 e37 e38 e39 e40 e41
  refine wpAny_done (by kernel_rfl) ?_ _
  have hb9 := hS.2.2.2
  go_wp2
  go_ret
  exact ⟨rfl, hb9⟩
set_option maxHeartbeats 3200000 in
set_option maxRecDepth 8000 in
theorem isIsometry_1 (P : Int) (A : Option Addr) (n c : Nat) (sq : List Int) (D : Option Addr) (r d : Nat) (M : List (List Int)) (m : Nat) (w : World) (hp0 : 0 < P) (hp1 : P ≤ 13) (hr0 : 0 < r) (hr : r ≤ 16) (hm1 : 1 ≤ m) (hm : m ≤ 16) (hd : RdII w D r M) (hM : Rect m M) (hb : (M.all fun r => nums P r) = true) (h1 : r ≠ n) :
    Calls Tryz.prog 147 #[.agg #[.int .i64 P, .slice A n c], .agg #[.int .i64 P, .slice A n c], .slice D r d] w fun e w' => e = .returned (.bool false) ∧ Below w.heap.size w w' := by
  have t7 : (P != P) = false := by simp
  have t4 : ((r : Int) != (n : Int)) = true := by rw [bne_iff_ne]; omega
  have t6 : ((n : Int) != (n : Int)) = false := by simp
  have hB0 : Below w.heap.size w ((w.alloc (.cells #[.int .i64 P, .slice A n c] 26)).alloc (.cells #[.int .i64 P, .slice A n c] 26)) := ((Below.refl _ _).alloc (Nat.le_refl _) _).alloc (by simp) _
  have k0 : Blk ((w.alloc (.cells #[.int .i64 P, .slice A n c] 26)).alloc (.cells #[.int .i64 P, .slice A n c] 26)) w.heap.size 26 #[.int .i64 P, .slice A n c] := (Blk.new _ _ _).alloc _
  have k1 : Blk ((w.alloc (.cells #[.int .i64 P, .slice A n c] 26)).alloc (.cells #[.int .i64 P, .slice A n c] 26)) (w.heap.size + 1) 26 #[.int .i64 P, .slice A n c] := Blk.newAt3 (by simp)
  have HIM := Lib.hid fun w' (h : Below w.heap.size w w') => isMatrix_any P D r d M m w' hp0 hp1 hr0 hr hm1 hm (hd.below h) hM
  rw [hb] at HIM
  obtain ⟨g, o, rfl, hx0, A0, c0, hc0, -, -⟩ := (hd.below hB0).at_ hr0
  rw [hM M[0] (List.getElem_mem hx0), Nat.add_zero] at hc0
  clear hM hd hb
  obtain ⟨q0, q1⟩ := k0.two
  obtain ⟨q2, q3⟩ := k1.two
  go_enter Tryz.func147, Tryz.ntmps147
  go_wp2
  refine wp_obs 42 [[], [0], [], [2], [0, 1, 2, 3], [0, 1, 2, 3, 4], [0, 1, 2, 3, 4, 5], [0, 1, 2, 3, 4, 5, 6], [0, 1, 2, 3, 4, 5], [0, 1, 2, 3, 4, 5, 8], [0, 1, 2, 3, 4, 5, 6, 7, 8, 9], [0, 1, 2, 3, 4, 5, 6, 7, 8, 9, 10], [0, 1, 2, 3, 4, 5, 6, 7, 8, 9, 10, 11], [0, 1, 2, 3, 4, 5, 6, 7, 8, 9, 10, 11, 12], [0, 1, 2, 3, 4, 5, 6, 7, 8, 9, 10, 11, 12, 13], [0, 1, 2, 3, 4, 5, 6, 7, 8, 9, 10, 11, 12], [0, 1, 2, 3, 4, 5, 6, 7, 8, 9, 10, 11, 12, 13, 14, 15], [0, 1, 2, 3, 4, 5, 6, 7, 8, 9, 10, 11, 12, 13, 14, 15, 16], [0, 1, 2, 3, 4, 5, 6, 7, 8, 9, 10, 11, 12, 13, 14, 15, 16, 17], [0, 1, 2, 3, 4, 5, 6, 7, 8, 9, 10, 11, 12, 13, 14, 15, 16, 17, 18], [0, 1, 2, 3, 4, 5, 6, 7, 8, 9, 10, 11, 12, 13, 14, 15, 16, 17, 18, 19], [0, 1, 2, 3, 4, 5, 6, 7, 8, 9, 10, 11, 12, 13, 14, 15, 16, 17, 18, 19, 20], [0, 1, 2, 3, 4, 5, 6, 7, 8, 9, 10, 11, 12, 13, 14, 15, 16, 17, 18, 19], [0, 1, 2, 3, 4, 5, 6, 7, 8, 9, 10, 11, 12, 13, 14, 15, 16, 17, 18, 19, 22], [0, 1, 2, 3, 4, 5, 6, 7, 8, 9, 10, 11, 12, 13, 14, 15, 16, 17, 18, 19, 20, 21, 22, 23], [0, 1, 2, 3, 4, 5, 6, 7, 8, 9, 10, 11, 12, 13, 14, 15, 16, 17, 18, 19, 20, 21, 22, 23, 24], [0, 1, 2, 3, 4, 5, 6, 7, 8, 9, 10, 11, 12, 13, 14, 15, 16, 17, 18, 19, 20, 21, 22, 23, 24, 25], [0, 1, 2, 3, 4, 5, 6, 7, 8, 9, 10, 11, 12, 13, 14, 15, 16, 17, 18, 19, 20, 21, 22, 23, 24, 25, 26], [0, 1, 2, 3, 4, 5, 6, 7, 8, 9, 10, 11, 12, 13, 14, 15, 16, 17, 18, 19, 20, 21, 22, 23, 24, 25, 26, 27], [0, 1, 2, 3, 4, 5, 6, 7, 8, 9, 10, 11, 12, 13, 14, 15, 16, 17, 18, 19, 20, 21, 22, 23, 24, 25, 26, 27, 28], [0, 1, 2, 3, 4, 5, 6, 7, 8, 9, 10, 11, 12, 13, 14, 15, 16, 17, 18, 19, 20, 21, 22, 23, 24, 25, 26, 27, 28, 29], [0, 1, 2, 3, 4, 5, 6, 7, 8, 9, 10, 11, 12, 13, 14, 15, 16, 17, 18, 19, 20, 21, 22, 23, 24, 25, 26], [0, 1, 2, 3, 4, 5, 6, 7, 8, 9, 10, 11, 12, 13, 14, 15, 16, 17, 18, 19, 20, 21, 22, 23, 24, 25, 26, 31], [0, 1, 2, 3, 4, 5, 6, 7, 8, 9, 10, 11, 12, 13, 14, 15, 16, 17, 18, 19, 20, 21, 22, 23, 24, 25, 26, 27, 28, 29, 30, 31, 32], [0, 1, 2, 3, 4, 5, 6, 7, 8, 9, 10, 11, 12, 13, 14, 15, 16, 17, 18, 19, 20, 21, 22, 23, 24, 25, 26, 27, 28, 29, 30, 31, 32, 33], [0, 1, 2, 3, 4, 5, 6, 7, 8, 9, 10, 11, 12, 13, 14, 15, 16, 17, 18, 19, 20, 21, 22, 23, 24, 25, 26, 27, 28, 29, 30, 31, 32, 33, 34], [0, 1, 2, 3, 4, 5, 6, 7, 8, 9, 10, 11, 12, 13, 14, 15, 16, 17, 18, 19, 20, 21, 22, 23, 24, 25, 26, 27, 28, 29, 30, 31, 32, 33, 34, 35], [0, 1, 2, 3, 4, 5, 6, 7, 8, 9, 10, 11, 12, 13, 14, 15, 16, 17, 18, 19, 20, 21, 22, 23, 24, 25, 26, 27, 28, 29, 30, 31, 32, 33, 34, 35, 36], [0, 1, 2, 3, 4, 5, 6, 7, 8, 9, 10, 11, 12, 13, 14, 15, 16, 17, 18, 19, 20, 21, 22, 23, 24, 25, 26, 27, 28, 29, 30, 31, 32, 33, 34, 35], [0, 1, 2, 3, 4, 5, 6, 7, 8, 9, 10, 11, 12, 13, 14, 15, 16, 17, 18, 19, 20, 21, 22, 23, 24, 25, 26, 27, 28, 29, 30, 31, 32, 33, 34, 35, 36, 37, 38], [0, 1, 2, 3, 4, 5, 6, 7, 8, 9, 10, 11, 12, 13, 14, 15, 16, 17, 18, 19, 20, 21, 22, 23, 24, 25, 26, 27, 28, 29, 30, 31, 32, 33, 34, 35, 36, 37, 38, 39], [0, 1, 2, 3, 4, 5, 6, 7, 8, 9, 10, 11, 12, 13, 14, 15, 16, 17, 18, 19, 20, 21, 22, 23, 24, 25, 26, 27, 28, 29, 30, 31, 32, 33, 34, 35, 36, 37, 38, 39, 40]] [VIs (.pointer (some ⟨w.heap.size, 0, none⟩)), VIs (.int .i64 (P)), VIs (.pointer (some ⟨w.heap.size + 1, 0, none⟩)), VIs (.int .i64 (P)), VIs (.bool false), VIs (.bool false), VIs (.agg #[.int .i64 P, .slice A n c]), VIs (.int .i64 (n)), VIs (.agg #[.int .i64 P, .slice A n c]), VIs (.int .i64 (n)), VIs (.bool false), VIs (.bool false), VIs (.bool false), VIs (.agg #[.int .i64 P, .slice A n c]), VIs (.int .i64 (P)), VIs (.slice (some ⟨g, o, none⟩) r d), VIs (.bool true), VIs (.bool false), VIs (.bool false), VIs (.bool false), VIs (.slice (some ⟨g, o, none⟩) r d), VIs (.int .i64 (r)), VIs (.agg #[.int .i64 P, .slice A n c]), VIs (.int .i64 (n)), VIs (.bool true), VIs (.bool true), VIs (.bool true), VIs undef, VIs undef, VIs undef, VIs undef, VIs undef, VIs undef, VIs undef, VIs (.bool true), VIs (.bool true), VIs undef, VIs undef, VIs undef, VIs undef, VIs undef, VIs (.bool true)] (fun w' => w'.cell? ⟨g, o, none⟩ = some (.slice A0 m c0) ∧ Blk w' w.heap.size 26 #[.int .i64 P, .slice A n c] ∧ Blk w' (w.heap.size + 1) 26 #[.int .i64 P, .slice A n c] ∧ Below w.heap.size w w') (by kernel_rfl) (by kernel_rfl) (fun _ _ h hb => ⟨(hb.cell (World.block_lt_of_cell? _ _ h.1)).trans h.1, h.2.1.below hb h.2.1.lt, h.2.2.1.below hb h.2.2.1.lt, h.2.2.2.trans (hb.mono h.2.2.2.size)⟩) (⟨hc0, k0.drew, k1.drew, hB0.drew⟩) (fun x => ?_)
  refine obs_step (Eq.trans (by simp only [zA, zC]; exact rfl) rfl) rfl (fun w' hS hV K hK => ?_) ?_
  · have q9 := hS.1; obtain ⟨q0, q1⟩ := hS.2.1.two; obtain ⟨q2, q3⟩ := hS.2.2.1.two
    go_simp
    exact hK.out _ _ _ rfl rfl rfl (Below.refl _ _)
  simp only [zD, zE, zF]
  refine obs_step (Eq.trans (by simp only [zA, zB, zC]; exact rfl) rfl) rfl (fun w' hS hV K hK => ?_) ?_
  · have e0 : x 0 = (.pointer (some ⟨w.heap.size, 0, none⟩)) := hV 0 (by decide)
    have q9 := hS.1; obtain ⟨q0, q1⟩ := hS.2.1.two; obtain ⟨q2, q3⟩ := hS.2.2.1.two
    go_simp
    exact hK.out _ _ _ rfl rfl rfl (Below.refl _ _)
  simp only [zD, zE, zF]
  refine obs_step (Eq.trans (by simp only [zA, zB, zC]; exact rfl) rfl) rfl (fun w' hS hV K hK => ?_) ?_
  · have q9 := hS.1; obtain ⟨q0, q1⟩ := hS.2.1.two; obtain ⟨q2, q3⟩ := hS.2.2.1.two
    go_simp
    exact hK.out _ _ _ rfl rfl rfl (Below.refl _ _)
  simp only [zD, zE, zF]
  refine obs_step (Eq.trans (by simp only [zA, zB, zC]; exact rfl) rfl) rfl (fun w' hS hV K hK => ?_) ?_
  · have e2 : x 2 = (.pointer (some ⟨w.heap.size + 1, 0, none⟩)) := hV 2 (by decide)
    have q9 := hS.1; obtain ⟨q0, q1⟩ := hS.2.1.two; obtain ⟨q2, q3⟩ := hS.2.2.1.two
    go_simp
    exact hK.out _ _ _ rfl rfl rfl (Below.refl _ _)
  simp only [zD, zE, zF]
  refine obs_step (Eq.trans (by simp only [zA, zB, zC]; exact rfl) rfl) rfl (fun w' hS hV K hK => ?_) ?_
  · have e1 : x 1 = (.int .i64 (P)) := hV 1 (by decide)
    have e3 : x 3 = (.int .i64 (P)) := hV 3 (by decide)
    have q9 := hS.1; obtain ⟨q0, q1⟩ := hS.2.1.two; obtain ⟨q2, q3⟩ := hS.2.2.1.two
    go_simp
    exact hK.out _ _ _ rfl rfl rfl (Below.refl _ _)
  simp only [zD, zE, zF]
  refine obs_step (Eq.trans (by simp only [zA, zB, zC]; exact rfl) rfl) rfl (fun w' hS hV K hK => ?_) ?_
  · have e4 : x 4 = (.bool false) := hV 4 (by decide)
    have q9 := hS.1; obtain ⟨q0, q1⟩ := hS.2.1.two; obtain ⟨q2, q3⟩ := hS.2.2.1.two
    go_simp
    exact hK.out _ _ _ rfl rfl rfl (Below.refl _ _)
  simp only [zD, zE, zF]
  refine obs_step (Eq.trans (by simp only [zA, zB, zC]; exact rfl) rfl) rfl (fun w' hS hV K hK => ?_) ?_
  · have e5 : x 5 = (.bool false) := hV 5 (by decide)
    have q9 := hS.1; obtain ⟨q0, q1⟩ := hS.2.1.two; obtain ⟨q2, q3⟩ := hS.2.2.1.two
    go_simp
    exact hK.out _ _ _ rfl rfl rfl (Below.refl _ _)
  simp only [zD, zE, zF]
  refine obs_step (Eq.trans (by simp only [zA, zB, zC]; exact rfl) rfl) rfl (fun w' hS hV K hK => ?_) ?_
  · have e5 : x 5 = (.bool false) := hV 5 (by decide)
    have e6 : x 6 = (.agg #[.int .i64 P, .slice A n c]) := hV 6 (by decide)
    have q9 := hS.1; obtain ⟨q0, q1⟩ := hS.2.1.two; obtain ⟨q2, q3⟩ := hS.2.2.1.two
    go_simp
    refine (dim_any _ _ _ _ _).mono ?_
    rintro e v1 ⟨rfl, hb⟩
    exact hK.out _ _ _ rfl rfl rfl hb
  simp only [zD, zE, zF]
  refine obs_step (Eq.trans (by simp only [zA, zB, zC]; exact rfl) rfl) rfl (fun w' hS hV K hK => ?_) ?_
  · have e5 : x 5 = (.bool false) := hV 5 (by decide)
    have q9 := hS.1; obtain ⟨q0, q1⟩ := hS.2.1.two; obtain ⟨q2, q3⟩ := hS.2.2.1.two
    go_simp
    exact hK.out _ _ _ rfl rfl rfl (Below.refl _ _)
  simp only [zD, zE, zF]
  refine obs_step (Eq.trans (by simp only [zA, zB, zC]; exact rfl) rfl) rfl (fun w' hS hV K hK => ?_) ?_
  · have e5 : x 5 = (.bool false) := hV 5 (by decide)
    have e8 : x 8 = (.agg #[.int .i64 P, .slice A n c]) := hV 8 (by decide)
    have q9 := hS.1; obtain ⟨q0, q1⟩ := hS.2.1.two; obtain ⟨q2, q3⟩ := hS.2.2.1.two
    go_simp
    refine (dim_any _ _ _ _ _).mono ?_
    rintro e v1 ⟨rfl, hb⟩
    exact hK.out _ _ _ rfl rfl rfl hb
  simp only [zD, zE, zF]
  refine obs_step (Eq.trans (by simp only [zA, zB, zC]; exact rfl) rfl) rfl (fun w' hS hV K hK => ?_) ?_
  · have e5 : x 5 = (.bool false) := hV 5 (by decide)
    have e7 : x 7 = (.int .i64 (n)) := hV 7 (by decide)
    have e9 : x 9 = (.int .i64 (n)) := hV 9 (by decide)
    have q9 := hS.1; obtain ⟨q0, q1⟩ := hS.2.1.two; obtain ⟨q2, q3⟩ := hS.2.2.1.two
    go_simp
    exact hK.out _ _ _ rfl rfl rfl (Below.refl _ _)
  simp only [zD, zE, zF]
  refine obs_step (Eq.trans (by simp only [zA, zB, zC]; exact rfl) rfl) rfl (fun w' hS hV K hK => ?_) ?_
  · have e5 : x 5 = (.bool false) := hV 5 (by decide)
    have e10 : x 10 = (.bool false) := hV 10 (by decide)
    have q9 := hS.1; obtain ⟨q0, q1⟩ := hS.2.1.two; obtain ⟨q2, q3⟩ := hS.2.2.1.two
    go_simp
    exact hK.out _ _ _ rfl rfl rfl (Below.refl _ _)
  simp only [zD, zE, zF]
  refine obs_step (Eq.trans (by simp only [zA, zB, zC]; exact rfl) rfl) rfl (fun w' hS hV K hK => ?_) ?_
  · have e11 : x 11 = (.bool false) := hV 11 (by decide)
    have q9 := hS.1; obtain ⟨q0, q1⟩ := hS.2.1.two; obtain ⟨q2, q3⟩ := hS.2.2.1.two
    go_simp
    exact hK.out _ _ _ rfl rfl rfl (Below.refl _ _)
  simp only [zD, zE, zF]
  refine obs_step (Eq.trans (by simp only [zA, zB, zC]; exact rfl) rfl) rfl (fun w' hS hV K hK => ?_) ?_
  · have e12 : x 12 = (.bool false) := hV 12 (by decide)
    have q9 := hS.1; obtain ⟨q0, q1⟩ := hS.2.1.two; obtain ⟨q2, q3⟩ := hS.2.2.1.two
    go_simp
    exact hK.out _ _ _ rfl rfl rfl (Below.refl _ _)
  simp only [zD, zE, zF]
  refine obs_step (Eq.trans (by simp only [zA, zB, zC]; exact rfl) rfl) rfl (fun w' hS hV K hK => ?_) ?_
  · have e12 : x 12 = (.bool false) := hV 12 (by decide)
    have e13 : x 13 = (.agg #[.int .i64 P, .slice A n c]) := hV 13 (by decide)
    have q9 := hS.1; obtain ⟨q0, q1⟩ := hS.2.1.two; obtain ⟨q2, q3⟩ := hS.2.2.1.two
    go_simp
    refine (field_any _ _ _ _ _).mono ?_
    rintro e v1 ⟨rfl, hb⟩
    exact hK.out _ _ _ rfl rfl rfl hb
  simp only [zD, zE, zF]
  refine obs_step (Eq.trans (by simp only [zA, zB, zC]; exact rfl) rfl) rfl (fun w' hS hV K hK => ?_) ?_
  · have e12 : x 12 = (.bool false) := hV 12 (by decide)
    have q9 := hS.1; obtain ⟨q0, q1⟩ := hS.2.1.two; obtain ⟨q2, q3⟩ := hS.2.2.1.two
    go_simp
    exact hK.out _ _ _ rfl rfl rfl (Below.refl _ _)
  simp only [zD, zE, zF]
  refine obs_step (Eq.trans (by simp only [zA, zB, zC]; exact rfl) rfl) rfl (fun w' hS hV K hK => ?_) ?_
  · have e12 : x 12 = (.bool false) := hV 12 (by decide)
    have e14 : x 14 = (.int .i64 (P)) := hV 14 (by decide)
    have e15 : x 15 = (.slice (some ⟨g, o, none⟩) r d) := hV 15 (by decide)
    have q9 := hS.1; obtain ⟨q0, q1⟩ := hS.2.1.two; obtain ⟨q2, q3⟩ := hS.2.2.1.two
    go_simp
    refine (HIM.out _ hS.2.2.2).mono ?_
    rintro e v1 ⟨rfl, rfl⟩
    exact hK.out _ _ _ rfl rfl rfl (Below.refl _ _)
  simp only [zD, zE, zF]
  refine obs_step (Eq.trans (by simp only [zA, zB, zC]; exact rfl) rfl) rfl (fun w' hS hV K hK => ?_) ?_
  · have e12 : x 12 = (.bool false) := hV 12 (by decide)
    have e16 : x 16 = (.bool true) := hV 16 (by decide)
    have q9 := hS.1; obtain ⟨q0, q1⟩ := hS.2.1.two; obtain ⟨q2, q3⟩ := hS.2.2.1.two
    go_simp
    exact hK.out _ _ _ rfl rfl rfl (Below.refl _ _)
  simp only [zD, zE, zF]
  refine obs_step (Eq.trans (by simp only [zA, zB, zC]; exact rfl) rfl) rfl (fun w' hS hV K hK => ?_) ?_
  · have e12 : x 12 = (.bool false) := hV 12 (by decide)
    have e17 : x 17 = (.bool false) := hV 17 (by decide)
    have q9 := hS.1; obtain ⟨q0, q1⟩ := hS.2.1.two; obtain ⟨q2, q3⟩ := hS.2.2.1.two
    go_simp
    exact hK.out _ _ _ rfl rfl rfl (Below.refl _ _)
  simp only [zD, zE, zF]
  refine obs_step (Eq.trans (by simp only [zA, zB, zC]; exact rfl) rfl) rfl (fun w' hS hV K hK => ?_) ?_
  · have e18 : x 18 = (.bool false) := hV 18 (by decide)
    have q9 := hS.1; obtain ⟨q0, q1⟩ := hS.2.1.two; obtain ⟨q2, q3⟩ := hS.2.2.1.two
    go_simp
    exact hK.out _ _ _ rfl rfl rfl (Below.refl _ _)
  simp only [zD, zE, zF]
  refine obs_step (Eq.trans (by simp only [zA, zB, zC]; exact rfl) rfl) rfl (fun w' hS hV K hK => ?_) ?_
  · have e19 : x 19 = (.bool false) := hV 19 (by decide)
    have q9 := hS.1; obtain ⟨q0, q1⟩ := hS.2.1.two; obtain ⟨q2, q3⟩ := hS.2.2.1.two
    go_simp
    exact hK.out _ _ _ rfl rfl rfl (Below.refl _ _)
  simp only [zD, zE, zF]
  refine obs_step (Eq.trans (by simp only [zA, zB, zC]; exact rfl) rfl) rfl (fun w' hS hV K hK => ?_) ?_
  · have e19 : x 19 = (.bool false) := hV 19 (by decide)
    have e20 : x 20 = (.slice (some ⟨g, o, none⟩) r d) := hV 20 (by decide)
    have q9 := hS.1; obtain ⟨q0, q1⟩ := hS.2.1.two; obtain ⟨q2, q3⟩ := hS.2.2.1.two
    go_simp
    exact hK.out _ _ _ rfl rfl rfl (Below.refl _ _)
  simp only [zD, zE, zF]
  refine obs_step (Eq.trans (by simp only [zA, zB, zC]; exact rfl) rfl) rfl (fun w' hS hV K hK => ?_) ?_
  · have e19 : x 19 = (.bool false) := hV 19 (by decide)
    have q9 := hS.1; obtain ⟨q0, q1⟩ := hS.2.1.two; obtain ⟨q2, q3⟩ := hS.2.2.1.two
    go_simp
    exact hK.out _ _ _ rfl rfl rfl (Below.refl _ _)
  simp only [zD, zE, zF]
  refine obs_step (Eq.trans (by simp only [zA, zB, zC]; exact rfl) rfl) rfl (fun w' hS hV K hK => ?_) ?_
  · have e19 : x 19 = (.bool false) := hV 19 (by decide)
    have e22 : x 22 = (.agg #[.int .i64 P, .slice A n c]) := hV 22 (by decide)
    have q9 := hS.1; obtain ⟨q0, q1⟩ := hS.2.1.two; obtain ⟨q2, q3⟩ := hS.2.2.1.two
    go_simp
    refine (dim_any _ _ _ _ _).mono ?_
    rintro e v1 ⟨rfl, hb⟩
    exact hK.out _ _ _ rfl rfl rfl hb
  simp only [zD, zE, zF]
  refine obs_step (Eq.trans (by simp only [zA, zB, zC]; exact rfl) rfl) rfl (fun w' hS hV K hK => ?_) ?_
  · have e19 : x 19 = (.bool false) := hV 19 (by decide)
    have e21 : x 21 = (.int .i64 (r)) := hV 21 (by decide)
    have e23 : x 23 = (.int .i64 (n)) := hV 23 (by decide)
    have q9 := hS.1; obtain ⟨q0, q1⟩ := hS.2.1.two; obtain ⟨q2, q3⟩ := hS.2.2.1.two
    go_simp
    exact hK.out _ _ _ rfl rfl rfl (Below.refl _ _)
  simp only [zD, zE, zF]
  refine obs_step (Eq.trans (by simp only [zA, zB, zC]; exact rfl) rfl) rfl (fun w' hS hV K hK => ?_) ?_
  · have e19 : x 19 = (.bool false) := hV 19 (by decide)
    have e24 : x 24 = (.bool true) := hV 24 (by decide)
    have q9 := hS.1; obtain ⟨q0, q1⟩ := hS.2.1.two; obtain ⟨q2, q3⟩ := hS.2.2.1.two
    go_simp
    exact hK.out _ _ _ rfl rfl rfl (Below.refl _ _)
  simp only [zD, zE, zF]
  refine obs_step (Eq.trans (by simp only [zA, zB, zC]; exact rfl) rfl) rfl (fun w' hS hV K hK => ?_) ?_
  · have e25 : x 25 = (.bool true) := hV 25 (by decide)
    have q9 := hS.1; obtain ⟨q0, q1⟩ := hS.2.1.two; obtain ⟨q2, q3⟩ := hS.2.2.1.two
    go_simp
    exact hK.out _ _ _ rfl rfl rfl (Below.refl _ _)
  simp only [zD, zE, zF]
  refine obs_step (Eq.trans (by simp only [zA, zB, zC]; exact rfl) rfl) rfl (fun w' hS hV K hK => ?_) ?_
  · have e26 : x 26 = (.bool true) := hV 26 (by decide)
    have q9 := hS.1; obtain ⟨q0, q1⟩ := hS.2.1.two; obtain ⟨q2, q3⟩ := hS.2.2.1.two
    go_simp
    exact hK.out _ _ _ rfl rfl rfl (Below.refl _ _)
  simp only [zD, zE, zF]
  refine obs_step (Eq.trans (by simp only [zA, zB, zC]; exact rfl) rfl) rfl (fun w' hS hV K hK => ?_) ?_
  · have e26 : x 26 = (.bool true) := hV 26 (by decide)
    have e27 : x 27 = undef := hV 27 (by decide)
    have q9 := hS.1; obtain ⟨q0, q1⟩ := hS.2.1.two; obtain ⟨q2, q3⟩ := hS.2.2.1.two
    go_simp
    exact hK.out _ _ _ rfl rfl rfl (Below.refl _ _)
  simp only [zD, zE, zF]
  refine obs_step (Eq.trans (by simp only [zA, zB, zC]; exact rfl) rfl) rfl (fun w' hS hV K hK => ?_) ?_
  · have e26 : x 26 = (.bool true) := hV 26 (by decide)
    have e28 : x 28 = undef := hV 28 (by decide)
    have q9 := hS.1; obtain ⟨q0, q1⟩ := hS.2.1.two; obtain ⟨q2, q3⟩ := hS.2.2.1.two
    go_simp
    exact hK.out _ _ _ rfl rfl rfl (Below.refl _ _)
  simp only [zD, zE, zF]
  refine obs_step (Eq.trans (by simp only [zA, zB, zC]; exact rfl) rfl) rfl (fun w' hS hV K hK => ?_) ?_
  · have e26 : x 26 = (.bool true) := hV 26 (by decide)
    have e29 : x 29 = undef := hV 29 (by decide)
    have q9 := hS.1; obtain ⟨q0, q1⟩ := hS.2.1.two; obtain ⟨q2, q3⟩ := hS.2.2.1.two
    go_simp
    exact hK.out _ _ _ rfl rfl rfl (Below.refl _ _)
  simp only [zD, zE, zF]
  refine obs_step (Eq.trans (by simp only [zA, zB, zC]; exact rfl) rfl) rfl (fun w' hS hV K hK => ?_) ?_
  · have e26 : x 26 = (.bool true) := hV 26 (by decide)
    have q9 := hS.1; obtain ⟨q0, q1⟩ := hS.2.1.two; obtain ⟨q2, q3⟩ := hS.2.2.1.two
    go_simp
    exact hK.out _ _ _ rfl rfl rfl (Below.refl _ _)
  simp only [zD, zE, zF]
  refine obs_step (Eq.trans (by simp only [zA, zB, zC]; exact rfl) rfl) rfl (fun w' hS hV K hK => ?_) ?_
  · have e26 : x 26 = (.bool true) := hV 26 (by decide)
    have e31 : x 31 = undef := hV 31 (by decide)
    have q9 := hS.1; obtain ⟨q0, q1⟩ := hS.2.1.two; obtain ⟨q2, q3⟩ := hS.2.2.1.two
    go_simp
    exact hK.out _ _ _ rfl rfl rfl (Below.refl _ _)
  simp only [zD, zE, zF]
  refine obs_step (Eq.trans (by simp only [zA, zB, zC]; exact rfl) rfl) rfl (fun w' hS hV K hK => ?_) ?_
  · have e26 : x 26 = (.bool true) := hV 26 (by decide)
    have e30 : x 30 = undef := hV 30 (by decide)
    have e32 : x 32 = undef := hV 32 (by decide)
    have q9 := hS.1; obtain ⟨q0, q1⟩ := hS.2.1.two; obtain ⟨q2, q3⟩ := hS.2.2.1.two
    go_simp
    exact hK.out _ _ _ rfl rfl rfl (Below.refl _ _)
  simp only [zD, zE, zF]
  refine obs_step (Eq.trans (by simp only [zA, zB, zC]; exact rfl) rfl) rfl (fun w' hS hV K hK => ?_) ?_
  · have e26 : x 26 = (.bool true) := hV 26 (by decide)
    have e33 : x 33 = undef := hV 33 (by decide)
    have q9 := hS.1; obtain ⟨q0, q1⟩ := hS.2.1.two; obtain ⟨q2, q3⟩ := hS.2.2.1.two
    go_simp
    exact hK.out _ _ _ rfl rfl rfl (Below.refl _ _)
  simp only [zD, zE, zF]
  refine obs_step (Eq.trans (by simp only [zA, zB, zC]; exact rfl) rfl) rfl (fun w' hS hV K hK => ?_) ?_
  · have e34 : x 34 = (.bool true) := hV 34 (by decide)
    have q9 := hS.1; obtain ⟨q0, q1⟩ := hS.2.1.two; obtain ⟨q2, q3⟩ := hS.2.2.1.two
    go_simp
    exact hK.out _ _ _ rfl rfl rfl (Below.refl _ _)
  simp only [zD, zE, zF]
  refine obs_step (Eq.trans (by simp only [zA, zB, zC]; exact rfl) rfl) rfl (fun w' hS hV K hK => ?_) ?_
  · have e35 : x 35 = (.bool true) := hV 35 (by decide)
    have q9 := hS.1; obtain ⟨q0, q1⟩ := hS.2.1.two; obtain ⟨q2, q3⟩ := hS.2.2.1.two
    go_simp
    exact hK.out _ _ _ rfl rfl rfl (Below.refl _ _)
  simp only [zD, zE, zF]
  refine obs_step (Eq.trans (by simp only [zA, zB, zC]; exact rfl) rfl) rfl (fun w' hS hV K hK => ?_) ?_
  · have e35 : x 35 = (.bool true) := hV 35 (by decide)
    have e36 : x 36 = undef := hV 36 (by decide)
    have q9 := hS.1; obtain ⟨q0, q1⟩ := hS.2.1.two; obtain ⟨q2, q3⟩ := hS.2.2.1.two
    go_simp
    exact hK.out _ _ _ rfl rfl rfl (Below.refl _ _)
  simp only [zD, zE, zF]
  refine obs_step (Eq.trans (by simp only [zA, zB, zC]; exact rfl) rfl) rfl (fun w' hS hV K hK => ?_) ?_
  · have e35 : x 35 = (.bool true) := hV 35 (by decide)
    have q9 := hS.1; obtain ⟨q0, q1⟩ := hS.2.1.two; obtain ⟨q2, q3⟩ := hS.2.2.1.two
    go_simp
    exact hK.out _ _ _ rfl rfl rfl (Below.refl _ _)
  simp only [zD, zE, zF]
  refine obs_step (Eq.trans (by simp only [zA, zB, zC]; exact rfl) rfl) rfl (fun w' hS hV K hK => ?_) ?_
  · have e35 : x 35 = (.bool true) := hV 35 (by decide)
    have e37 : x 37 = undef := hV 37 (by decide)
    have e38 : x 38 = undef := hV 38 (by decide)
    have q9 := hS.1; obtain ⟨q0, q1⟩ := hS.2.1.two; obtain ⟨q2, q3⟩ := hS.2.2.1.two
    go_simp
    exact hK.out _ _ _ rfl rfl rfl (Below.refl _ _)
  simp only [zD, zE, zF]
  refine obs_step (Eq.trans (by simp only [zA, zB, zC]; exact rfl) rfl) rfl (fun w' hS hV K hK => ?_) ?_
  · have e35 : x 35 = (.bool true) := hV 35 (by decide)
    have e39 : x 39 = undef := hV 39 (by decide)
    have q9 := hS.1; obtain ⟨q0, q1⟩ := hS.2.1.two; obtain ⟨q2, q3⟩ := hS.2.2.1.two
    go_simp
    exact hK.out _ _ _ rfl rfl rfl (Below.refl _ _)
  simp only [zD, zE, zF]
  refine obs_step (Eq.trans (by simp only [zA, zB, zC]; exact rfl) rfl) rfl (fun w' hS hV K hK => ?_) ?_
  · have e35 : x 35 = (.bool true) := hV 35 (by decide)
    have e40 : x 40 = undef := hV 40 (by decide)
    have q9 := hS.1; obtain ⟨q0, q1⟩ := hS.2.1.two; obtain ⟨q2, q3⟩ := hS.2.2.1.two
    go_simp
    exact hK.out _ _ _ rfl rfl rfl (Below.refl _ _)
  simp only [zD, zE, zF]
  refine fun w' hS hV => ?_
  have e0 : x 0 = (.pointer (some ⟨w.heap.size, 0, none⟩)) := hV 0 (by decide)
  have e1 : x 1 = (.int .i64 (P)) := hV 1 (by decide)
  have e2 : x 2 = (.pointer (some ⟨w.heap.size + 1, 0, none⟩)) := hV 2 (by decide)
  have e3 : x 3 = (.int .i64 (P)) := hV 3 (by decide)
  have e4 : x 4 = (.bool false) := hV 4 (by decide)
  have e5 : x 5 = (.bool false) := hV 5 (by decide)
  have e6 : x 6 = (.agg #[.int .i64 P, .slice A n c]) := hV 6 (by decide)
  have e7 : x 7 = (.int .i64 (n)) := hV 7 (by decide)
  have e8 : x 8 = (.agg #[.int .i64 P, .slice A n c]) := hV 8 (by decide)
  have e9 : x 9 = (.int .i64 (n)) := hV 9 (by decide)
  have e10 : x 10 = (.bool false) := hV 10 (by decide)
  have e11 : x 11 = (.bool false) := hV 11 (by decide)
  have e12 : x 12 = (.bool false) := hV 12 (by decide)
  have e13 : x 13 = (.agg #[.int .i64 P, .slice A n c]) := hV 13 (by decide)
  have e14 : x 14 = (.int .i64 (P)) := hV 14 (by decide)
  have e15 : x 15 = (.slice (some ⟨g, o, none⟩) r d) := hV 15 (by decide)
  have e16 : x 16 = (.bool true) := hV 16 (by decide)
  have e17 : x 17 = (.bool false) := hV 17 (by decide)
  have e18 : x 18 = (.bool false) := hV 18 (by decide)
  have e19 : x 19 = (.bool false) := hV 19 (by decide)
  have e20 : x 20 = (.slice (some ⟨g, o, none⟩) r d) := hV 20 (by decide)
  have e21 : x 21 = (.int .i64 (r)) := hV 21 (by decide)
  have e22 : x 22 = (.agg #[.int .i64 P, .slice A n c]) := hV 22 (by decide)
  have e23 : x 23 = (.int .i64 (n)) := hV 23 (by decide)
  have e24 : x 24 = (.bool true) := hV 24 (by decide)
  have e25 : x 25 = (.bool true) := hV 25 (by decide)
  have e26 : x 26 = (.bool true) := hV 26 (by decide)
  have e27 : x 27 = undef := hV 27 (by decide)
  have e28 : x 28 = undef := hV 28 (by decide)
  have e29 : x 29 = undef := hV 29 (by decide)
  have e30 : x 30 = undef := hV 30 (by decide)
  have e31 : x 31 = undef := hV 31 (by decide)
  have e32 : x 32 = undef := hV 32 (by decide)
  have e33 : x 33 = undef := hV 33 (by decide)
  have e34 : x 34 = (.bool true) := hV 34 (by decide)
  have e35 : x 35 = (.bool true) := hV 35 (by decide)
  have e36 : x 36 = undef := hV 36 (by decide)
  have e37 : x 37 = undef := hV 37 (by decide)
  have e38 : x 38 = undef := hV 38 (by decide)
  have e39 : x 39 = undef := hV 39 (by decide)
  have e40 : x 40 = undef := hV 40 (by decide)
  have e41 : x 41 = (.bool true) := hV 41 (by decide)
  simp only [e0, e1, e2, e3, e4, e5, e6, e7, e8, e9, e10, e11, e12, e13, e14, e15, e16, e17, e18, e19, e20, e21, e22, e23, e24, e25, e26, e27, e28, e29, e30, e31, e32, e33, e34, e35, e36, e37, e38, e39, e40, e41]
  clear e0 e1 e2 e3 e4 e5 e6 e7 e8 e9 e10 e11 e12 e13 e14 e15 e16 e17 e18 e19 e20 e21 e22 e23 e24 e25 e26 e27 e28 e29 e30 e31 e32 e33 e34 e35 e36 e37 e38 e39 e40 e41
  refine wpAny_done (by kernel_rfl) ?_ _
  have hb9 := hS.2.2.2
  go_wp2
  go_ret
  exact ⟨rfl, hb9⟩
set_option maxHeartbeats 3200000 in
set_option maxRecDepth 8000 in
theorem isIsometry_2 (P : Int) (A : Option Addr) (n c : Nat) (sq : List Int) (D : Option Addr) (r d : Nat) (M : List (List Int)) (m : Nat) (w : World) (hp0 : 0 < P) (hp1 : P ≤ 13) (hr0 : 0 < r) (hr : r ≤ 16) (hm1 : 1 ≤ m) (hm : m ≤ 16) (hd : RdII w D r M) (hM : Rect m M) (hb : (M.all fun r => nums P r) = true) (h1 : r = n) (h2 : m ≠ n) :
    Calls Tryz.prog 147 #[.agg #[.int .i64 P, .slice A n c], .agg #[.int .i64 P, .slice A n c], .slice D r d] w fun e w' => e = .returned (.bool false) ∧ Below w.heap.size w w' := by
  have t7 : (P != P) = false := by simp
  subst h1
  have t4 : ((r : Int) != (r : Int)) = false := by simp
  have t5 : ((m : Int) != (r : Int)) = true := by rw [bne_iff_ne]; omega
  have hB0 : Below w.heap.size w ((w.alloc (.cells #[.int .i64 P, .slice A r c] 26)).alloc (.cells #[.int .i64 P, .slice A r c] 26)) := ((Below.refl _ _).alloc (Nat.le_refl _) _).alloc (by simp) _
  have k0 : Blk ((w.alloc (.cells #[.int .i64 P, .slice A r c] 26)).alloc (.cells #[.int .i64 P, .slice A r c] 26)) w.heap.size 26 #[.int .i64 P, .slice A r c] := (Blk.new _ _ _).alloc _
  have k1 : Blk ((w.alloc (.cells #[.int .i64 P, .slice A r c] 26)).alloc (.cells #[.int .i64 P, .slice A r c] 26)) (w.heap.size + 1) 26 #[.int .i64 P, .slice A r c] := Blk.newAt3 (by simp)
  have HIM := Lib.hid fun w' (h : Below w.heap.size w w') => isMatrix_any P D r d M m w' hp0 hp1 hr0 hr hm1 hm (hd.below h) hM
  rw [hb] at HIM
  obtain ⟨g, o, rfl, hx0, A0, c0, hc0, -, -⟩ := (hd.below hB0).at_ hr0
  rw [hM M[0] (List.getElem_mem hx0), Nat.add_zero] at hc0
  clear hM hd hb
  obtain ⟨q0, q1⟩ := k0.two
  obtain ⟨q2, q3⟩ := k1.two
  go_enter Tryz.func147, Tryz.ntmps147
  go_wp2
  refine wp_obs 42 [[], [0], [], [2], [0, 1, 2, 3], [0, 1, 2, 3, 4], [0, 1, 2, 3, 4, 5], [0, 1, 2, 3, 4, 5, 6], [0, 1, 2, 3, 4, 5], [0, 1, 2, 3, 4, 5, 8], [0, 1, 2, 3, 4, 5, 6, 7, 8, 9], [0, 1, 2, 3, 4, 5, 6, 7, 8, 9, 10], [0, 1, 2, 3, 4, 5, 6, 7, 8, 9, 10, 11], [0, 1, 2, 3, 4, 5, 6, 7, 8, 9, 10, 11, 12], [0, 1, 2, 3, 4, 5, 6, 7, 8, 9, 10, 11, 12, 13], [0, 1, 2, 3, 4, 5, 6, 7, 8, 9, 10, 11, 12], [0, 1, 2, 3, 4, 5, 6, 7, 8, 9, 10, 11, 12, 13, 14, 15], [0, 1, 2, 3, 4, 5, 6, 7, 8, 9, 10, 11, 12, 13, 14, 15, 16], [0, 1, 2, 3, 4, 5, 6, 7, 8, 9, 10, 11, 12, 13, 14, 15, 16, 17], [0, 1, 2, 3, 4, 5, 6, 7, 8, 9, 10, 11, 12, 13, 14, 15, 16, 17, 18], [0, 1, 2, 3, 4, 5, 6, 7, 8, 9, 10, 11, 12, 13, 14, 15, 16, 17, 18, 19], [0, 1, 2, 3, 4, 5, 6, 7, 8, 9, 10, 11, 12, 13, 14, 15, 16, 17, 18, 19, 20], [0, 1, 2, 3, 4, 5, 6, 7, 8, 9, 10, 11, 12, 13, 14, 15, 16, 17, 18, 19], [0, 1, 2, 3, 4, 5, 6, 7, 8, 9, 10, 11, 12, 13, 14, 15, 16, 17, 18, 19, 22], [0, 1, 2, 3, 4, 5, 6, 7, 8, 9, 10, 11, 12, 13, 14, 15, 16, 17, 18, 19, 20, 21, 22, 23], [0, 1, 2, 3, 4, 5, 6, 7, 8, 9, 10, 11, 12, 13, 14, 15, 16, 17, 18, 19, 20, 21, 22, 23, 24], [0, 1, 2, 3, 4, 5, 6, 7, 8, 9, 10, 11, 12, 13, 14, 15, 16, 17, 18, 19, 20, 21, 22, 23, 24, 25], [0, 1, 2, 3, 4, 5, 6, 7, 8, 9, 10, 11, 12, 13, 14, 15, 16, 17, 18, 19, 20, 21, 22, 23, 24, 25, 26], [0, 1, 2, 3, 4, 5, 6, 7, 8, 9, 10, 11, 12, 13, 14, 15, 16, 17, 18, 19, 20, 21, 22, 23, 24, 25, 26, 27], [0, 1, 2, 3, 4, 5, 6, 7, 8, 9, 10, 11, 12, 13, 14, 15, 16, 17, 18, 19, 20, 21, 22, 23, 24, 25, 26, 27, 28], [0, 1, 2, 3, 4, 5, 6, 7, 8, 9, 10, 11, 12, 13, 14, 15, 16, 17, 18, 19, 20, 21, 22, 23, 24, 25, 26, 27, 28, 29], [0, 1, 2, 3, 4, 5, 6, 7, 8, 9, 10, 11, 12, 13, 14, 15, 16, 17, 18, 19, 20, 21, 22, 23, 24, 25, 26], [0, 1, 2, 3, 4, 5, 6, 7, 8, 9, 10, 11, 12, 13, 14, 15, 16, 17, 18, 19, 20, 21, 22, 23, 24, 25, 26, 31], [0, 1, 2, 3, 4, 5, 6, 7, 8, 9, 10, 11, 12, 13, 14, 15, 16, 17, 18, 19, 20, 21, 22, 23, 24, 25, 26, 27, 28, 29, 30, 31, 32], [0, 1, 2, 3, 4, 5, 6, 7, 8, 9, 10, 11, 12, 13, 14, 15, 16, 17, 18, 19, 20, 21, 22, 23, 24, 25, 26, 27, 28, 29, 30, 31, 32, 33], [0, 1, 2, 3, 4, 5, 6, 7, 8, 9, 10, 11, 12, 13, 14, 15, 16, 17, 18, 19, 20, 21, 22, 23, 24, 25, 26, 27, 28, 29, 30, 31, 32, 33, 34], [0, 1, 2, 3, 4, 5, 6, 7, 8, 9, 10, 11, 12, 13, 14, 15, 16, 17, 18, 19, 20, 21, 22, 23, 24, 25, 26, 27, 28, 29, 30, 31, 32, 33, 34, 35], [0, 1, 2, 3, 4, 5, 6, 7, 8, 9, 10, 11, 12, 13, 14, 15, 16, 17, 18, 19, 20, 21, 22, 23, 24, 25, 26, 27, 28, 29, 30, 31, 32, 33, 34, 35, 36], [0, 1, 2, 3, 4, 5, 6, 7, 8, 9, 10, 11, 12, 13, 14, 15, 16, 17, 18, 19, 20, 21, 22, 23, 24, 25, 26, 27, 28, 29, 30, 31, 32, 33, 34, 35], [0, 1, 2, 3, 4, 5, 6, 7, 8, 9, 10, 11, 12, 13, 14, 15, 16, 17, 18, 19, 20, 21, 22, 23, 24, 25, 26, 27, 28, 29, 30, 31, 32, 33, 34, 35, 36, 37, 38], [0, 1, 2, 3, 4, 5, 6, 7, 8, 9, 10, 11, 12, 13, 14, 15, 16, 17, 18, 19, 20, 21, 22, 23, 24, 25, 26, 27, 28, 29, 30, 31, 32, 33, 34, 35, 36, 37, 38, 39], [0, 1, 2, 3, 4, 5, 6, 7, 8, 9, 10, 11, 12, 13, 14, 15, 16, 17, 18, 19, 20, 21, 22, 23, 24, 25, 26, 27, 28, 29, 30, 31, 32, 33, 34, 35, 36, 37, 38, 39, 40]] [VIs (.pointer (some ⟨w.heap.size, 0, none⟩)), VIs (.int .i64 (P)), VIs (.pointer (some ⟨w.heap.size + 1, 0, none⟩)), VIs (.int .i64 (P)), VIs (.bool false), VIs (.bool false), VIs (.agg #[.int .i64 P, .slice A r c]), VIs (.int .i64 (r)), VIs (.agg #[.int .i64 P, .slice A r c]), VIs (.int .i64 (r)), VIs (.bool false), VIs (.bool false), VIs (.bool false), VIs (.agg #[.int .i64 P, .slice A r c]), VIs (.int .i64 (P)), VIs (.slice (some ⟨g, o, none⟩) r d), VIs (.bool true), VIs (.bool false), VIs (.bool false), VIs (.bool false), VIs (.slice (some ⟨g, o, none⟩) r d), VIs (.int .i64 (r)), VIs (.agg #[.int .i64 P, .slice A r c]), VIs (.int .i64 (r)), VIs (.bool false), VIs (.bool false), VIs (.bool false), VIs (.slice (some ⟨g, o, none⟩) r d), VIs (.pointer (some ⟨g, o, none⟩)), VIs (.slice A0 m c0), VIs (.int .i64 (m)), VIs (.agg #[.int .i64 P, .slice A r c]), VIs (.int .i64 (r)), VIs (.bool true), VIs (.bool true), VIs (.bool true), VIs undef, VIs undef, VIs undef, VIs undef, VIs undef, VIs (.bool true)] (fun w' => w'.cell? ⟨g, o, none⟩ = some (.slice A0 m c0) ∧ Blk w' w.heap.size 26 #[.int .i64 P, .slice A r c] ∧ Blk w' (w.heap.size + 1) 26 #[.int .i64 P, .slice A r c] ∧ Below w.heap.size w w') (by kernel_rfl) (by kernel_rfl) (fun _ _ h hb => ⟨(hb.cell (World.block_lt_of_cell? _ _ h.1)).trans h.1, h.2.1.below hb h.2.1.lt, h.2.2.1.below hb h.2.2.1.lt, h.2.2.2.trans (hb.mono h.2.2.2.size)⟩) (⟨hc0, k0.drew, k1.drew, hB0.drew⟩) (fun x => ?_)
  refine obs_step (Eq.trans (by simp only [zA, zC]; exact rfl) rfl) rfl (fun w' hS hV K hK => ?_) ?_
  · have q9 := hS.1; obtain ⟨q0, q1⟩ := hS.2.1.two; obtain ⟨q2, q3⟩ := hS.2.2.1.two
    go_simp
    exact hK.out _ _ _ rfl rfl rfl (Below.refl _ _)
  simp only [zD, zE, zF]
  refine obs_step (Eq.trans (by simp only [zA, zB, zC]; exact rfl) rfl) rfl (fun w' hS hV K hK => ?_) ?_
  · have e0 : x 0 = (.pointer (some ⟨w.heap.size, 0, none⟩)) := hV 0 (by decide)
    have q9 := hS.1; obtain ⟨q0, q1⟩ := hS.2.1.two; obtain ⟨q2, q3⟩ := hS.2.2.1.two
    go_simp
    exact hK.out _ _ _ rfl rfl rfl (Below.refl _ _)
  simp only [zD, zE, zF]
  refine obs_step (Eq.trans (by simp only [zA, zB, zC]; exact rfl) rfl) rfl (fun w' hS hV K hK => ?_) ?_
  · have q9 := hS.1; obtain ⟨q0, q1⟩ := hS.2.1.two; obtain ⟨q2, q3⟩ := hS.2.2.1.two
    go_simp
    exact hK.out _ _ _ rfl rfl rfl (Below.refl _ _)
  simp only [zD, zE, zF]
  refine obs_step (Eq.trans (by simp only [zA, zB, zC]; exact rfl) rfl) rfl (fun w' hS hV K hK => ?_) ?_
  · have e2 : x 2 = (.pointer (some ⟨w.heap.size + 1, 0, none⟩)) := hV 2 (by decide)
    have q9 := hS.1; obtain ⟨q0, q1⟩ := hS.2.1.two; obtain ⟨q2, q3⟩ := hS.2.2.1.two
    go_simp
    exact hK.out _ _ _ rfl rfl rfl (Below.refl _ _)
  simp only [zD, zE, zF]
  refine obs_step (Eq.trans (by simp only [zA, zB, zC]; exact rfl) rfl) rfl (fun w' hS hV K hK => ?_) ?_
  · have e1 : x 1 = (.int .i64 (P)) := hV 1 (by decide)
    have e3 : x 3 = (.int .i64 (P)) := hV 3 (by decide)
    have q9 := hS.1; obtain ⟨q0, q1⟩ := hS.2.1.two; obtain ⟨q2, q3⟩ := hS.2.2.1.two
    go_simp
    exact hK.out _ _ _ rfl rfl rfl (Below.refl _ _)
  simp only [zD, zE, zF]
  refine obs_step (Eq.trans (by simp only [zA, zB, zC]; exact rfl) rfl) rfl (fun w' hS hV K hK => ?_) ?_
  · have e4 : x 4 = (.bool false) := hV 4 (by decide)
    have q9 := hS.1; obtain ⟨q0, q1⟩ := hS.2.1.two; obtain ⟨q2, q3⟩ := hS.2.2.1.two
    go_simp
    exact hK.out _ _ _ rfl rfl rfl (Below.refl _ _)
  simp only [zD, zE, zF]
  refine obs_step (Eq.trans (by simp only [zA, zB, zC]; exact rfl) rfl) rfl (fun w' hS hV K hK => ?_) ?_
  · have e5 : x 5 = (.bool false) := hV 5 (by decide)
    have q9 := hS.1; obtain ⟨q0, q1⟩ := hS.2.1.two; obtain ⟨q2, q3⟩ := hS.2.2.1.two
    go_simp
    exact hK.out _ _ _ rfl rfl rfl (Below.refl _ _)
  simp only [zD, zE, zF]
  refine obs_step (Eq.trans (by simp only [zA, zB, zC]; exact rfl) rfl) rfl (fun w' hS hV K hK => ?_) ?_
  · have e5 : x 5 = (.bool false) := hV 5 (by decide)
    have e6 : x 6 = (.agg #[.int .i64 P, .slice A r c]) := hV 6 (by decide)
    have q9 := hS.1; obtain ⟨q0, q1⟩ := hS.2.1.two; obtain ⟨q2, q3⟩ := hS.2.2.1.two
    go_simp
    refine (dim_any _ _ _ _ _).mono ?_
    rintro e v1 ⟨rfl, hb⟩
    exact hK.out _ _ _ rfl rfl rfl hb
  simp only [zD, zE, zF]
  refine obs_step (Eq.trans (by simp only [zA, zB, zC]; exact rfl) rfl) rfl (fun w' hS hV K hK => ?_) ?_
  · have e5 : x 5 = (.bool false) := hV 5 (by decide)
    have q9 := hS.1; obtain ⟨q0, q1⟩ := hS.2.1.two; obtain ⟨q2, q3⟩ := hS.2.2.1.two
    go_simp
    exact hK.out _ _ _ rfl rfl rfl (Below.refl _ _)
  simp only [zD, zE, zF]
  refine obs_step (Eq.trans (by simp only [zA, zB, zC]; exact rfl) rfl) rfl (fun w' hS hV K hK => ?_) ?_
  · have e5 : x 5 = (.bool false) := hV 5 (by decide)
    have e8 : x 8 = (.agg #[.int .i64 P, .slice A r c]) := hV 8 (by decide)
    have q9 := hS.1; obtain ⟨q0, q1⟩ := hS.2.1.two; obtain ⟨q2, q3⟩ := hS.2.2.1.two
    go_simp
    refine (dim_any _ _ _ _ _).mono ?_
    rintro e v1 ⟨rfl, hb⟩
    exact hK.out _ _ _ rfl rfl rfl hb
  simp only [zD, zE, zF]
  refine obs_step (Eq.trans (by simp only [zA, zB, zC]; exact rfl) rfl) rfl (fun w' hS hV K hK => ?_) ?_
  · have e5 : x 5 = (.bool false) := hV 5 (by decide)
    have e7 : x 7 = (.int .i64 (r)) := hV 7 (by decide)
    have e9 : x 9 = (.int .i64 (r)) := hV 9 (by decide)
    have q9 := hS.1; obtain ⟨q0, q1⟩ := hS.2.1.two; obtain ⟨q2, q3⟩ := hS.2.2.1.two
    go_simp
    exact hK.out _ _ _ rfl rfl rfl (Below.refl _ _)
  simp only [zD, zE, zF]
  refine obs_step (Eq.trans (by simp only [zA, zB, zC]; exact rfl) rfl) rfl (fun w' hS hV K hK => ?_) ?_
  · have e5 : x 5 = (.bool false) := hV 5 (by decide)
    have e10 : x 10 = (.bool false) := hV 10 (by decide)
    have q9 := hS.1; obtain ⟨q0, q1⟩ := hS.2.1.two; obtain ⟨q2, q3⟩ := hS.2.2.1.two
    go_simp
    exact hK.out _ _ _ rfl rfl rfl (Below.refl _ _)
  simp only [zD, zE, zF]
  refine obs_step (Eq.trans (by simp only [zA, zB, zC]; exact rfl) rfl) rfl (fun w' hS hV K hK => ?_) ?_
  · have e11 : x 11 = (.bool false) := hV 11 (by decide)
    have q9 := hS.1; obtain ⟨q0, q1⟩ := hS.2.1.two; obtain ⟨q2, q3⟩ := hS.2.2.1.two
    go_simp
    exact hK.out _ _ _ rfl rfl rfl (Below.refl _ _)
  simp only [zD, zE, zF]
  refine obs_step (Eq.trans (by simp only [zA, zB, zC]; exact rfl) rfl) rfl (fun w' hS hV K hK => ?_) ?_
  · have e12 : x 12 = (.bool false) := hV 12 (by decide)
    have q9 := hS.1; obtain ⟨q0, q1⟩ := hS.2.1.two; obtain ⟨q2, q3⟩ := hS.2.2.1.two
    go_simp
    exact hK.out _ _ _ rfl rfl rfl (Below.refl _ _)
  simp only [zD, zE, zF]
  refine obs_step (Eq.trans (by simp only [zA, zB, zC]; exact rfl) rfl) rfl (fun w' hS hV K hK => ?_) ?_
  · have e12 : x 12 = (.bool false) := hV 12 (by decide)
    have e13 : x 13 = (.agg #[.int .i64 P, .slice A r c]) := hV 13 (by decide)
    have q9 := hS.1; obtain ⟨q0, q1⟩ := hS.2.1.two; obtain ⟨q2, q3⟩ := hS.2.2.1.two
    go_simp
    refine (field_any _ _ _ _ _).mono ?_
    rintro e v1 ⟨rfl, hb⟩
    exact hK.out _ _ _ rfl rfl rfl hb
  simp only [zD, zE, zF]
  refine obs_step (Eq.trans (by simp only [zA, zB, zC]; exact rfl) rfl) rfl (fun w' hS hV K hK => ?_) ?_
  · have e12 : x 12 = (.bool false) := hV 12 (by decide)
    have q9 := hS.1; obtain ⟨q0, q1⟩ := hS.2.1.two; obtain ⟨q2, q3⟩ := hS.2.2.1.two
    go_simp
    exact hK.out _ _ _ rfl rfl rfl (Below.refl _ _)
  simp only [zD, zE, zF]
  refine obs_step (Eq.trans (by simp only [zA, zB, zC]; exact rfl) rfl) rfl (fun w' hS hV K hK => ?_) ?_
  · have e12 : x 12 = (.bool false) := hV 12 (by decide)
    have e14 : x 14 = (.int .i64 (P)) := hV 14 (by decide)
    have e15 : x 15 = (.slice (some ⟨g, o, none⟩) r d) := hV 15 (by decide)
    have q9 := hS.1; obtain ⟨q0, q1⟩ := hS.2.1.two; obtain ⟨q2, q3⟩ := hS.2.2.1.two
    go_simp
    refine (HIM.out _ hS.2.2.2).mono ?_
    rintro e v1 ⟨rfl, rfl⟩
    exact hK.out _ _ _ rfl rfl rfl (Below.refl _ _)
  simp only [zD, zE, zF]
  refine obs_step (Eq.trans (by simp only [zA, zB, zC]; exact rfl) rfl) rfl (fun w' hS hV K hK => ?_) ?_
  · have e12 : x 12 = (.bool false) := hV 12 (by decide)
    have e16 : x 16 = (.bool true) := hV 16 (by decide)
    have q9 := hS.1; obtain ⟨q0, q1⟩ := hS.2.1.two; obtain ⟨q2, q3⟩ := hS.2.2.1.two
    go_simp
    exact hK.out _ _ _ rfl rfl rfl (Below.refl _ _)
  simp only [zD, zE, zF]
  refine obs_step (Eq.trans (by simp only [zA, zB, zC]; exact rfl) rfl) rfl (fun w' hS hV K hK => ?_) ?_
  · have e12 : x 12 = (.bool false) := hV 12 (by decide)
    have e17 : x 17 = (.bool false) := hV 17 (by decide)
    have q9 := hS.1; obtain ⟨q0, q1⟩ := hS.2.1.two; obtain ⟨q2, q3⟩ := hS.2.2.1.two
    go_simp
    exact hK.out _ _ _ rfl rfl rfl (Below.refl _ _)
  simp only [zD, zE, zF]
  refine obs_step (Eq.trans (by simp only [zA, zB, zC]; exact rfl) rfl) rfl (fun w' hS hV K hK => ?_) ?_
  · have e18 : x 18 = (.bool false) := hV 18 (by decide)
    have q9 := hS.1; obtain ⟨q0, q1⟩ := hS.2.1.two; obtain ⟨q2, q3⟩ := hS.2.2.1.two
    go_simp
    exact hK.out _ _ _ rfl rfl rfl (Below.refl _ _)
  simp only [zD, zE, zF]
  refine obs_step (Eq.trans (by simp only [zA, zB, zC]; exact rfl) rfl) rfl (fun w' hS hV K hK => ?_) ?_
  · have e19 : x 19 = (.bool false) := hV 19 (by decide)
    have q9 := hS.1; obtain ⟨q0, q1⟩ := hS.2.1.two; obtain ⟨q2, q3⟩ := hS.2.2.1.two
    go_simp
    exact hK.out _ _ _ rfl rfl rfl (Below.refl _ _)
  simp only [zD, zE, zF]
  refine obs_step (Eq.trans (by simp only [zA, zB, zC]; exact rfl) rfl) rfl (fun w' hS hV K hK => ?_) ?_
  · have e19 : x 19 = (.bool false) := hV 19 (by decide)
    have e20 : x 20 = (.slice (some ⟨g, o, none⟩) r d) := hV 20 (by decide)
    have q9 := hS.1; obtain ⟨q0, q1⟩ := hS.2.1.two; obtain ⟨q2, q3⟩ := hS.2.2.1.two
    go_simp
    exact hK.out _ _ _ rfl rfl rfl (Below.refl _ _)
  simp only [zD, zE, zF]
  refine obs_step (Eq.trans (by simp only [zA, zB, zC]; exact rfl) rfl) rfl (fun w' hS hV K hK => ?_) ?_
  · have e19 : x 19 = (.bool false) := hV 19 (by decide)
    have q9 := hS.1; obtain ⟨q0, q1⟩ := hS.2.1.two; obtain ⟨q2, q3⟩ := hS.2.2.1.two
    go_simp
    exact hK.out _ _ _ rfl rfl rfl (Below.refl _ _)
  simp only [zD, zE, zF]
  refine obs_step (Eq.trans (by simp only [zA, zB, zC]; exact rfl) rfl) rfl (fun w' hS hV K hK => ?_) ?_
  · have e19 : x 19 = (.bool false) := hV 19 (by decide)
    have e22 : x 22 = (.agg #[.int .i64 P, .slice A r c]) := hV 22 (by decide)
    have q9 := hS.1; obtain ⟨q0, q1⟩ := hS.2.1.two; obtain ⟨q2, q3⟩ := hS.2.2.1.two
    go_simp
    refine (dim_any _ _ _ _ _).mono ?_
    rintro e v1 ⟨rfl, hb⟩
    exact hK.out _ _ _ rfl rfl rfl hb
  simp only [zD, zE, zF]
  refine obs_step (Eq.trans (by simp only [zA, zB, zC]; exact rfl) rfl) rfl (fun w' hS hV K hK => ?_) ?_
  · have e19 : x 19 = (.bool false) := hV 19 (by decide)
    have e21 : x 21 = (.int .i64 (r)) := hV 21 (by decide)
    have e23 : x 23 = (.int .i64 (r)) := hV 23 (by decide)
    have q9 := hS.1; obtain ⟨q0, q1⟩ := hS.2.1.two; obtain ⟨q2, q3⟩ := hS.2.2.1.two
    go_simp
    exact hK.out _ _ _ rfl rfl rfl (Below.refl _ _)
  simp only [zD, zE, zF]
  refine obs_step (Eq.trans (by simp only [zA, zB, zC]; exact rfl) rfl) rfl (fun w' hS hV K hK => ?_) ?_
  · have e19 : x 19 = (.bool false) := hV 19 (by decide)
    have e24 : x 24 = (.bool false) := hV 24 (by decide)
    have q9 := hS.1; obtain ⟨q0, q1⟩ := hS.2.1.two; obtain ⟨q2, q3⟩ := hS.2.2.1.two
    go_simp
    exact hK.out _ _ _ rfl rfl rfl (Below.refl _ _)
  simp only [zD, zE, zF]
  refine obs_step (Eq.trans (by simp only [zA, zB, zC]; exact rfl) rfl) rfl (fun w' hS hV K hK => ?_) ?_
  · have e25 : x 25 = (.bool false) := hV 25 (by decide)
    have q9 := hS.1; obtain ⟨q0, q1⟩ := hS.2.1.two; obtain ⟨q2, q3⟩ := hS.2.2.1.two
    go_simp
    exact hK.out _ _ _ rfl rfl rfl (Below.refl _ _)
  simp only [zD, zE, zF]
  refine obs_step (Eq.trans (by simp only [zA, zB, zC]; exact rfl) rfl) rfl (fun w' hS hV K hK => ?_) ?_
  · have e26 : x 26 = (.bool false) := hV 26 (by decide)
    have q9 := hS.1; obtain ⟨q0, q1⟩ := hS.2.1.two; obtain ⟨q2, q3⟩ := hS.2.2.1.two
    go_simp
    exact hK.out _ _ _ rfl rfl rfl (Below.refl _ _)
  simp only [zD, zE, zF]
  refine obs_step (Eq.trans (by simp only [zA, zB, zC]; exact rfl) rfl) rfl (fun w' hS hV K hK => ?_) ?_
  · have e26 : x 26 = (.bool false) := hV 26 (by decide)
    have e27 : x 27 = (.slice (some ⟨g, o, none⟩) r d) := hV 27 (by decide)
    have q9 := hS.1; obtain ⟨q0, q1⟩ := hS.2.1.two; obtain ⟨q2, q3⟩ := hS.2.2.1.two
    go_simp
    exact hK.out _ _ _ rfl rfl rfl (Below.refl _ _)
  simp only [zD, zE, zF]
  refine obs_step (Eq.trans (by simp only [zA, zB, zC]; exact rfl) rfl) rfl (fun w' hS hV K hK => ?_) ?_
  · have e26 : x 26 = (.bool false) := hV 26 (by decide)
    have e28 : x 28 = (.pointer (some ⟨g, o, none⟩)) := hV 28 (by decide)
    have q9 := hS.1; obtain ⟨q0, q1⟩ := hS.2.1.two; obtain ⟨q2, q3⟩ := hS.2.2.1.two
    go_simp
    exact hK.out _ _ _ rfl rfl rfl (Below.refl _ _)
  simp only [zD, zE, zF]
  refine obs_step (Eq.trans (by simp only [zA, zB, zC]; exact rfl) rfl) rfl (fun w' hS hV K hK => ?_) ?_
  · have e26 : x 26 = (.bool false) := hV 26 (by decide)
    have e29 : x 29 = (.slice A0 m c0) := hV 29 (by decide)
    have q9 := hS.1; obtain ⟨q0, q1⟩ := hS.2.1.two; obtain ⟨q2, q3⟩ := hS.2.2.1.two
    go_simp
    exact hK.out _ _ _ rfl rfl rfl (Below.refl _ _)
  simp only [zD, zE, zF]
  refine obs_step (Eq.trans (by simp only [zA, zB, zC]; exact rfl) rfl) rfl (fun w' hS hV K hK => ?_) ?_
  · have e26 : x 26 = (.bool false) := hV 26 (by decide)
    have q9 := hS.1; obtain ⟨q0, q1⟩ := hS.2.1.two; obtain ⟨q2, q3⟩ := hS.2.2.1.two
    go_simp
    exact hK.out _ _ _ rfl rfl rfl (Below.refl _ _)
  simp only [zD, zE, zF]
  refine obs_step (Eq.trans (by simp only [zA, zB, zC]; exact rfl) rfl) rfl (fun w' hS hV K hK => ?_) ?_
  · have e26 : x 26 = (.bool false) := hV 26 (by decide)
    have e31 : x 31 = (.agg #[.int .i64 P, .slice A r c]) := hV 31 (by decide)
    have q9 := hS.1; obtain ⟨q0, q1⟩ := hS.2.1.two; obtain ⟨q2, q3⟩ := hS.2.2.1.two
    go_simp
    refine (dim_any _ _ _ _ _).mono ?_
    rintro e v1 ⟨rfl, hb⟩
    exact hK.out _ _ _ rfl rfl rfl hb
  simp only [zD, zE, zF]
  refine obs_step (Eq.trans (by simp only [zA, zB, zC]; exact rfl) rfl) rfl (fun w' hS hV K hK => ?_) ?_
  · have e26 : x 26 = (.bool false) := hV 26 (by decide)
    have e30 : x 30 = (.int .i64 (m)) := hV 30 (by decide)
    have e32 : x 32 = (.int .i64 (r)) := hV 32 (by decide)
    have q9 := hS.1; obtain ⟨q0, q1⟩ := hS.2.1.two; obtain ⟨q2, q3⟩ := hS.2.2.1.two
    go_simp
    exact hK.out _ _ _ rfl rfl rfl (Below.refl _ _)
  simp only [zD, zE, zF]
  refine obs_step (Eq.trans (by simp only [zA, zB, zC]; exact rfl) rfl) rfl (fun w' hS hV K hK => ?_) ?_
  · have e26 : x 26 = (.bool false) := hV 26 (by decide)
    have e33 : x 33 = (.bool true) := hV 33 (by decide)
    have q9 := hS.1; obtain ⟨q0, q1⟩ := hS.2.1.two; obtain ⟨q2, q3⟩ := hS.2.2.1.two
    go_simp
    exact hK.out _ _ _ rfl rfl rfl (Below.refl _ _)
  simp only [zD, zE, zF]
  refine obs_step (Eq.trans (by simp only [zA, zB, zC]; exact rfl) rfl) rfl (fun w' hS hV K hK => ?_) ?_
  · have e34 : x 34 = (.bool true) := hV 34 (by decide)
    have q9 := hS.1; obtain ⟨q0, q1⟩ := hS.2.1.two; obtain ⟨q2, q3⟩ := hS.2.2.1.two
    go_simp
    exact hK.out _ _ _ rfl rfl rfl (Below.refl _ _)
  simp only [zD, zE, zF]
  refine obs_step (Eq.trans (by simp only [zA, zB, zC]; exact rfl) rfl) rfl (fun w' hS hV K hK => ?_) ?_
  · have e35 : x 35 = (.bool true) := hV 35 (by decide)
    have q9 := hS.1; obtain ⟨q0, q1⟩ := hS.2.1.two; obtain ⟨q2, q3⟩ := hS.2.2.1.two
    go_simp
    exact hK.out _ _ _ rfl rfl rfl (Below.refl _ _)
  simp only [zD, zE, zF]
  refine obs_step (Eq.trans (by simp only [zA, zB, zC]; exact rfl) rfl) rfl (fun w' hS hV K hK => ?_) ?_
  · have e35 : x 35 = (.bool true) := hV 35 (by decide)
    have e36 : x 36 = undef := hV 36 (by decide)
    have q9 := hS.1; obtain ⟨q0, q1⟩ := hS.2.1.two; obtain ⟨q2, q3⟩ := hS.2.2.1.two
    go_simp
    exact hK.out _ _ _ rfl rfl rfl (Below.refl _ _)
  simp only [zD, zE, zF]
  refine obs_step (Eq.trans (by simp only [zA, zB, zC]; exact rfl) rfl) rfl (fun w' hS hV K hK => ?_) ?_
  · have e35 : x 35 = (.bool true) := hV 35 (by decide)
    have q9 := hS.1; obtain ⟨q0, q1⟩ := hS.2.1.two; obtain ⟨q2, q3⟩ := hS.2.2.1.two
    go_simp
    exact hK.out _ _ _ rfl rfl rfl (Below.refl _ _)
  simp only [zD, zE, zF]
  refine obs_step (Eq.trans (by simp only [zA, zB, zC]; exact rfl) rfl) rfl (fun w' hS hV K hK => ?_) ?_
  · have e35 : x 35 = (.bool true) := hV 35 (by decide)
    have e37 : x 37 = undef := hV 37 (by decide)
    have e38 : x 38 = undef := hV 38 (by decide)
    have q9 := hS.1; obtain ⟨q0, q1⟩ := hS.2.1.two; obtain ⟨q2, q3⟩ := hS.2.2.1.two
    go_simp
    exact hK.out _ _ _ rfl rfl rfl (Below.refl _ _)
  simp only [zD, zE, zF]
  refine obs_step (Eq.trans (by simp only [zA, zB, zC]; exact rfl) rfl) rfl (fun w' hS hV K hK => ?_) ?_
  · have e35 : x 35 = (.bool true) := hV 35 (by decide)
    have e39 : x 39 = undef := hV 39 (by decide)
    have q9 := hS.1; obtain ⟨q0, q1⟩ := hS.2.1.two; obtain ⟨q2, q3⟩ := hS.2.2.1.two
    go_simp
    exact hK.out _ _ _ rfl rfl rfl (Below.refl _ _)
  simp only [zD, zE, zF]
  refine obs_step (Eq.trans (by simp only [zA, zB, zC]; exact rfl) rfl) rfl (fun w' hS hV K hK => ?_) ?_
  · have e35 : x 35 = (.bool true) := hV 35 (by decide)
    have e40 : x 40 = undef := hV 40 (by decide)
    have q9 := hS.1; obtain ⟨q0, q1⟩ := hS.2.1.two; obtain ⟨q2, q3⟩ := hS.2.2.1.two
    go_simp
    exact hK.out _ _ _ rfl rfl rfl (Below.refl _ _)
  simp only [zD, zE, zF]
  refine fun w' hS hV => ?_
  have e0 : x 0 = (.pointer (some ⟨w.heap.size, 0, none⟩)) := hV 0 (by decide)
  have e1 : x 1 = (.int .i64 (P)) := hV 1 (by decide)
  have e2 : x 2 = (.pointer (some ⟨w.heap.size + 1, 0, none⟩)) := hV 2 (by decide)
  have e3 : x 3 = (.int .i64 (P)) := hV 3 (by decide)
  have e4 : x 4 = (.bool false) := hV 4 (by decide)
  have e5 : x 5 = (.bool false) := hV 5 (by decide)
  have e6 : x 6 = (.agg #[.int .i64 P, .slice A r c]) := hV 6 (by decide)
  have e7 : x 7 = (.int .i64 (r)) := hV 7 (by decide)
  have e8 : x 8 = (.agg #[.int .i64 P, .slice A r c]) := hV 8 (by decide)
  have e9 : x 9 = (.int .i64 (r)) := hV 9 (by decide)
  have e10 : x 10 = (.bool false) := hV 10 (by decide)
  have e11 : x 11 = (.bool false) := hV 11 (by decide)
  have e12 : x 12 = (.bool false) := hV 12 (by decide)
  have e13 : x 13 = (.agg #[.int .i64 P, .slice A r c]) := hV 13 (by decide)
  have e14 : x 14 = (.int .i64 (P)) := hV 14 (by decide)
  have e15 : x 15 = (.slice (some ⟨g, o, none⟩) r d) := hV 15 (by decide)
  have e16 : x 16 = (.bool true) := hV 16 (by decide)
  have e17 : x 17 = (.bool false) := hV 17 (by decide)
  have e18 : x 18 = (.bool false) := hV 18 (by decide)
  have e19 : x 19 = (.bool false) := hV 19 (by decide)
  have e20 : x 20 = (.slice (some ⟨g, o, none⟩) r d) := hV 20 (by decide)
  have e21 : x 21 = (.int .i64 (r)) := hV 21 (by decide)
  have e22 : x 22 = (.agg #[.int .i64 P, .slice A r c]) := hV 22 (by decide)
  have e23 : x 23 = (.int .i64 (r)) := hV 23 (by decide)
  have e24 : x 24 = (.bool false) := hV 24 (by decide)
  have e25 : x 25 = (.bool false) := hV 25 (by decide)
  have e26 : x 26 = (.bool false) := hV 26 (by decide)
  have e27 : x 27 = (.slice (some ⟨g, o, none⟩) r d) := hV 27 (by decide)
  have e28 : x 28 = (.pointer (some ⟨g, o, none⟩)) := hV 28 (by decide)
  have e29 : x 29 = (.slice A0 m c0) := hV 29 (by decide)
  have e30 : x 30 = (.int .i64 (m)) := hV 30 (by decide)
  have e31 : x 31 = (.agg #[.int .i64 P, .slice A r c]) := hV 31 (by decide)
  have e32 : x 32 = (.int .i64 (r)) := hV 32 (by decide)
  have e33 : x 33 = (.bool true) := hV 33 (by decide)
  have e34 : x 34 = (.bool true) := hV 34 (by decide)
  have e35 : x 35 = (.bool true) := hV 35 (by decide)
  have e36 : x 36 = undef := hV 36 (by decide)
  have e37 : x 37 = undef := hV 37 (by decide)
  have e38 : x 38 = undef := hV 38 (by decide)
  have e39 : x 39 = undef := hV 39 (by decide)
  have e40 : x 40 = undef := hV 40 (by decide)
  have e41 : x 41 = (.bool true) := hV 41 (by decide)
  simp only [e0, e1, e2, e3, e4, e5, e6, e7, e8, e9, e10, e11, e12, e13, e14, e15, e16, e17, e18, e19, e20, e21, e22, e23, e24, e25, e26, e27, e28, e29, e30, e31, e32, e33, e34, e35, e36, e37, e38, e39, e40, e41]
  clear e0 e1 e2 e3 e4 e5 e6 e7 e8 e9 e10 e11 e12 e13 e14 e15 e16 e17 e18 e19 e20 e21 e22 e23 e24 e25 e26 e27 e28 e29 e30 e31 e32 e33 e34 e35 e36 e37 e38 e39 e40 e41
  refine wpAny_done (by kernel_rfl) ?_ _
  have hb9 := hS.2.2.2
  go_wp2
  go_ret
  exact ⟨rfl, hb9⟩
end Go.Proofs.YtdbibmilicjllaaGreat
namespace Go.Proofs.YtdbibmilicjllaaGreat
open Go.RowKit
set_option maxHeartbeats 3200000 in
set_option maxRecDepth 8000 in
theorem l03Isometry_0 (P : Int) (A : Option Addr) (n c : Nat) (sq : List Int) (D : Option Addr) (r d : Nat) (M : List (List Int)) (m : Nat) (w : World) (HP : isP P = true) (hr0 : 0 < r) (hr : r ≤ 16) (hm1 : 1 ≤ m) (hm : m ≤ 16) (hd : RdII w D r M) (hM : Rect m M) (h1 : r ≠ n) :
    Calls Tryz.prog 332 #[.agg #[.int .i64 P, .slice A n c], .agg #[.int .i64 P, .slice A n c], .slice D r d] w fun e w' => e = .returned (.bool false) ∧ Below w.heap.size w w' := by
  have t7 : (P != P) = false := by simp
  have t4 : ((r : Int) != (n : Int)) = true := by rw [bne_iff_ne]; omega
  have t6 : ((n : Int) != (n : Int)) = false := by simp
  have hB0 : Below w.heap.size w ((w.alloc (.cells #[.int .i64 P, .slice A n c] 26)).alloc (.cells #[.int .i64 P, .slice A n c] 26)) := ((Below.refl _ _).alloc (Nat.le_refl _) _).alloc (by simp) _
  have k0 : Blk ((w.alloc (.cells #[.int .i64 P, .slice A n c] 26)).alloc (.cells #[.int .i64 P, .slice A n c] 26)) w.heap.size 26 #[.int .i64 P, .slice A n c] := (Blk.new _ _ _).alloc _
  have k1 : Blk ((w.alloc (.cells #[.int .i64 P, .slice A n c] 26)).alloc (.cells #[.int .i64 P, .slice A n c] 26)) (w.heap.size + 1) 26 #[.int .i64 P, .slice A n c] := Blk.newAt3 (by simp)
  have HIM := Lib.hid fun w' (h : Below w.heap.size w w') => l02Is_any P D r d M m w' HP hr0 hr hm1 hm (hd.below h) hM
  
  have HR := Lib.hid hM
  clear hM  HP
  obtain ⟨q0, q1⟩ := k0.two
  obtain ⟨q2, q3⟩ := k1.two
  go_enter Tryz.func332, Tryz.ntmps332
  go_wp2

  
  go_ret
  exact ⟨rfl, hB0⟩
set_option maxHeartbeats 3200000 in
set_option maxRecDepth 8000 in
theorem l03Isometry_1 (P : Int) (A : Option Addr) (n c : Nat) (sq : List Int) (D : Option Addr) (r d : Nat) (M : List (List Int)) (m : Nat) (w : World) (HP : isP P = true) (hr0 : 0 < r) (hr : r ≤ 16) (hm1 : 1 ≤ m) (hm : m ≤ 16) (hd : RdII w D r M) (hM : Rect m M) (h1 : r = n) (hb : (M.all fun r => nums P r) = false) :
    Calls Tryz.prog 332 #[.agg #[.int .i64 P, .slice A n c], .agg #[.int .i64 P, .slice A n c], .slice D r d] w fun e w' => e = .returned (.bool false) ∧ Below w.heap.size w w' := by
  have t7 : (P != P) = false := by simp
  subst h1
  have t4 : ((r : Int) != (r : Int)) = false := by simp
  have hB0 : Below w.heap.size w ((w.alloc (.cells #[.int .i64 P, .slice A r c] 26)).alloc (.cells #[.int .i64 P, .slice A r c] 26)) := ((Below.refl _ _).alloc (Nat.le_refl _) _).alloc (by simp) _
  have k0 : Blk ((w.alloc (.cells #[.int .i64 P, .slice A r c] 26)).alloc (.cells #[.int .i64 P, .slice A r c] 26)) w.heap.size 26 #[.int .i64 P, .slice A r c] := (Blk.new _ _ _).alloc _
  have k1 : Blk ((w.alloc (.cells #[.int .i64 P, .slice A r c] 26)).alloc (.cells #[.int .i64 P, .slice A r c] 26)) (w.heap.size + 1) 26 #[.int .i64 P, .slice A r c] := Blk.newAt3 (by simp)
  have HIM := Lib.hid fun w' (h : Below w.heap.size w w') => l02Is_any P D r d M m w' HP hr0 hr hm1 hm (hd.below h) hM
  rw [hb] at HIM
  have HR := Lib.hid hM
  clear hM hb HP
  obtain ⟨q0, q1⟩ := k0.two
  obtain ⟨q2, q3⟩ := k1.two
  go_enter Tryz.func332, Tryz.ntmps332
  go_wp2_with fail
  refine (HIM.out _ hB0).mono ?_
  rintro e w2 ⟨rfl, hb2⟩
  have hB2 := hB0.trans (hb2.mono hB0.size)
  obtain ⟨q4, q5⟩ := (k0.below hb2 k0.lt).two; obtain ⟨q6, q7⟩ := (k1.below hb2 k1.lt).two; clear q0 q1 q2 q3; go_wp2
  go_ret
  exact ⟨rfl, hB2⟩
set_option maxHeartbeats 3200000 in
set_option maxRecDepth 8000 in
theorem l03Isometry_2 (P : Int) (A : Option Addr) (n c : Nat) (sq : List Int) (D : Option Addr) (r d : Nat) (M : List (List Int)) (m : Nat) (w : World) (HP : isP P = true) (hr0 : 0 < r) (hr : r ≤ 16) (hm1 : 1 ≤ m) (hm : m ≤ 16) (hd : RdII w D r M) (hM : Rect m M) (hb : (M.all fun r => nums P r) = true) (h1 : r = n) (h2 : m ≠ n) :
    Calls Tryz.prog 332 #[.agg #[.int .i64 P, .slice A n c], .agg #[.int .i64 P, .slice A n c], .slice D r d] w fun e w' => e = .returned (.bool false) ∧ Below w.heap.size w w' := by
  have t7 : (P != P) = false := by simp
  subst h1
  have t4 : ((r : Int) != (r : Int)) = false := by simp
  have t5 : ((m : Int) != (r : Int)) = true := by rw [bne_iff_ne]; omega
  have hB0 : Below w.heap.size w ((w.alloc (.cells #[.int .i64 P, .slice A r c] 26)).alloc (.cells #[.int .i64 P, .slice A r c] 26)) := ((Below.refl _ _).alloc (Nat.le_refl _) _).alloc (by simp) _
  have k0 : Blk ((w.alloc (.cells #[.int .i64 P, .slice A r c] 26)).alloc (.cells #[.int .i64 P, .slice A r c] 26)) w.heap.size 26 #[.int .i64 P, .slice A r c] := (Blk.new _ _ _).alloc _
  have k1 : Blk ((w.alloc (.cells #[.int .i64 P, .slice A r c] 26)).alloc (.cells #[.int .i64 P, .slice A r c] 26)) (w.heap.size + 1) 26 #[.int .i64 P, .slice A r c] := Blk.newAt3 (by simp)
  have HIM := Lib.hid fun w' (h : Below w.heap.size w w') => l02Is_any P D r d M m w' HP hr0 hr hm1 hm (hd.below h) hM
  rw [hb] at HIM
  have HR := Lib.hid hM
  clear hM hb HP
  obtain ⟨q0, q1⟩ := k0.two
  obtain ⟨q2, q3⟩ := k1.two
  go_enter Tryz.func332, Tryz.ntmps332
  go_wp2_with fail
  refine (HIM.out _ hB0).mono ?_
  rintro e w2 ⟨rfl, hb2⟩
  have hB2 := hB0.trans (hb2.mono hB0.size)
  obtain ⟨g, o, rfl, hx0, A0, c0, hc0, -, -⟩ := (hd.below hB2).at_ hr0
  rw [HR.out M[0] (List.getElem_mem hx0), Nat.add_zero] at hc0
  clear hd hx0
  obtain ⟨q4, q5⟩ := (k0.below hb2 k0.lt).two; obtain ⟨q6, q7⟩ := (k1.below hb2 k1.lt).two; clear q0 q1 q2 q3; go_wp2
  go_ret
  exact ⟨rfl, hB2⟩
set_option maxHeartbeats 6400000 in
set_option maxRecDepth 8000 in
theorem l03Isometry_sq (P : Int) (A : Option Addr) (n c : Nat) (sq : List Int) (D : Option Addr) (d : Nat) (M : List (List Int)) (w : World) (HP : isP P = true) (hn0 : 0 < n) (hn : n ≤ 6) (ha : Rd w A n (ints sq)) (hs : NumsL P sq) (hd : RdII w D n M) (hM : Tab P n M) :
    Calls Tryz.prog 332 #[.agg #[.int .i64 P, .slice A n c], .agg #[.int .i64 P, .slice A n c], .slice D n d] w fun e w' => e = .returned (.bool (isoB P sq M)) ∧ Below w.heap.size w w' := by
  have t7 : (P != P) = false := by simp
  have t6 : ((n : Int) != (n : Int)) = false := by simp
  have hB0 : Below w.heap.size w ((w.alloc (.cells #[.int .i64 P, .slice A n c] 26)).alloc (.cells #[.int .i64 P, .slice A n c] 26)) := ((Below.refl _ _).alloc (Nat.le_refl _) _).alloc (by simp) _
  have k0 : Blk ((w.alloc (.cells #[.int .i64 P, .slice A n c] 26)).alloc (.cells #[.int .i64 P, .slice A n c] 26)) w.heap.size 26 #[.int .i64 P, .slice A n c] := (Blk.new _ _ _).alloc _
  have k1 : Blk ((w.alloc (.cells #[.int .i64 P, .slice A n c] 26)).alloc (.cells #[.int .i64 P, .slice A n c] 26)) (w.heap.size + 1) 26 #[.int .i64 P, .slice A n c] := Blk.newAt3 (by simp)
  obtain ⟨hp3, hp2⟩ := isP_ge HP
  have HTT : Hid (Tab P n (transL M) ∧ (transL M).length = n) := Lib.hid (trans_ok (by omega) hM (hd.len) hn0)
  have HM := Lib.hid hM
  have HSN := Lib.hid hs
  have HSL := Lib.hid ha.lenI
  have HFR : Hid (frB P sq.length M = true) := Lib.hid (frB_iff.2 ⟨hd.len.trans ha.lenI.symm, by rw [ha.lenI]; exact hM⟩)
  obtain ⟨R, hR⟩ : ∃ b, b = isoB P sq M := ⟨_, rfl⟩
  rw [← hR]
  have HR := Lib.hid hR
  obtain ⟨dd, hdd⟩ : ∃ x, x = detL P M := ⟨_, rfl⟩
  have HD := Lib.hid hdd
  have HIM := Lib.hid fun w' (h : Below w.heap.size w w') => l02Is_any P D n d M n w' HP hn0 (by omega) hn0 (by omega) (hd.below h) (Rect.of_tab hM)
  have hall : (M.all fun r => nums P r) = true := List.all_eq_true.2 fun r hr => numsL_nums (hM r hr).2
  rw [hall] at HIM
  have HDE := Lib.hid fun w' (h : Below w.heap.size w w') => l02Det_any P D n d M w' HP hn0 (by omega) (hd.below h) hM
  rw [← hdd] at HDE
  have HTP := Lib.hid fun w' (h : Below w.heap.size w w') => l02Turn_any P D n d M n w' hn0 (by omega) (by omega) (hd.below h) hM
  have HA := Lib.hid ha
  obtain ⟨b, hb0⟩ : ∃ b, b = (dd == 0) := ⟨_, rfl⟩
  have hb1 : (dd == 0) = b := hb0.symm
  have HB : Hid ((b = true → R = false) ∧ (b = false → detL P M ≠ 0)) := Lib.hid ⟨fun h => by rw [HR.out]; exact is_det (by rw [← hdd]; rw [h] at hb0; simpa using hb0.symm), fun h => by rw [← hdd]; rw [h] at hb0; simpa using hb0.symm⟩
  have HDD := Lib.hid hd
  clear hall hM hd hs ha hR hdd hb0 HP
  obtain ⟨q0, q1⟩ := k0.two
  obtain ⟨q2, q3⟩ := k1.two
  go_enter Tryz.func332, Tryz.ntmps332
  go_wp2_with fail
  refine (HIM.out _ hB0).mono ?_
  rintro e w2 ⟨rfl, hb2⟩
  have hB2 := hB0.trans (hb2.mono hB0.size)
  have k2 := k0.below hb2 k0.lt
  have l2 := k1.below hb2 k1.lt
  clear q0 q1 q2 q3 k0 k1 hB0
  obtain ⟨g, o, rfl, hx0, A0, c0, hc0, -, -⟩ := (HDD.out.below hB2).at_ hn0
  rw [(HM.out M[0] (List.getElem_mem hx0)).1, Nat.add_zero] at hc0
  clear hx0
  obtain ⟨q0, q1⟩ := k2.two
  obtain ⟨q2, q3⟩ := l2.two
  go_wp2_with fail
  refine (HDE.out _ hB2).mono ?_
  rintro e w3 ⟨rfl, hb3⟩
  have hB3 := hB2.trans (hb3.mono hB2.size)
  have k3 := k2.below hb3 k2.lt
  have l3 := l2.below hb3 l2.lt
  clear q0 q1 q2 q3 k2 l2 hB2 hc0
  cases b
  · have HDN := Lib.hid (HB.out.2 rfl)
    clear HB
    go_wp2_with fail
    refine (HTP.out w3 hB3).mono ?_
    rintro e w4 ⟨A4, c4, rfl, hM4⟩
    have k4 := k3.below hM4.b k3.lt
    have l4 := l3.below hM4.b l3.lt
    have hB4 := hB3.trans (hM4.b.mono hB3.size)
    have C4 := hM4.rd
    clear k3 l3 hB3 hM4 hb1
    go_wp2
    go_loopw [9] (fun i wr => ∃ j : Nat, j ≤ n ∧ i = .int .i64 j ∧ Below w4.heap.size w4 wr ∧ Hid (isTo P sq M (fun a => a + 1) j 0)) (fun i _ => n - (intOf i).toNat)
    case atStart => exact ⟨0, by omega, rfl, Below.refl _ _, Lib.hid ⟨fun a ha => absurd ha (by omega), fun b hb => absurd hb (by omega)⟩⟩
    case round =>
      obtain ⟨i, hi, rfl, hbr, HI⟩ := hrel
      by_cases hlt : i < n
      · obtain ⟨gc, oc, rfl, hxi, Ai, ci, hci4, hri, -⟩ := C4.at_ hlt
        have ht := HTT.out.1 _ (List.getElem_mem hxi)
        have li := ht.1
        rw [li] at hci4 hri
        have HNI := Lib.hid ht.2
        have HGI : Hid ((transL M).getD i [] = (transL M)[i]) := Lib.hid (getD_of_lt [] hxi)
        obtain ⟨vi, hvi⟩ : ∃ v, v = (transL M)[i] := ⟨_, rfl⟩
        rw [← hvi] at hri HNI HGI
        have HCI := Lib.hid hci4
        clear hvi ht li hxi hci4
        obtain ⟨si, hsi⟩ : ∃ s, s = sq.getD i 0 := ⟨_, rfl⟩
        have HSI := Lib.hid hsi
        obtain ⟨ga, oa, eA, hxa, hca⟩ := HA.out.int hlt
        have hsv : sq[i] = si := by rw [hsi, getD_of_lt 0 hxa]
        rw [hsv] at hca
        have EA := Lib.hid eA
        have HCA := Lib.hid hca
        clear hsi hsv hxa eA hca
        go_wp2
        go_loopw [10] (fun k wr => ∃ j : Nat, j ≤ i + 1 ∧ k = .int .i64 j ∧ Below w4.heap.size w4 wr ∧ Hid (isTo P sq M (fun a => a + 1) i j)) (fun k _ => n + 1 - (intOf k).toNat)
        case atStart => exact ⟨0, by omega, rfl, hbr, HI⟩
        case round =>
          obtain ⟨k, hk, rfl, hbw, HK⟩ := hrel
          clear hbr
          by_cases hkt : k ≤ i
          · have hkn : k < n := by omega
            obtain ⟨gc', oc', e9, hxk, Ak, ck, hck, hrk, -⟩ := (C4.below hbw).at_ (show k < n by omega)
            cases e9
            have hci := (hbw.cell (World.block_lt_of_cell? _ _ HCI.out)).trans HCI.out
            have ht := HTT.out.1 _ (List.getElem_mem hxk)
            have lk := ht.1
            rw [lk] at hck hrk
            have HNK := Lib.hid ht.2
            have HGK : Hid ((transL M).getD k [] = (transL M)[k]) := Lib.hid (getD_of_lt [] hxk)
            obtain ⟨vk, hvk⟩ : ∃ v, v = (transL M)[k] := ⟨_, rfl⟩
            rw [← hvk] at hrk HNK HGK
            clear hvk ht lk hxk
            have hB5 := hB4.trans (hbw.mono hB4.size)
            have k5 := k4.below hbw k4.lt
            have l5 := l4.below hbw l4.lt
            have HPR := Lib.hid fun (w' : World) (h : Below wr.heap.size wr w') => l03Pair_any P A n c sq Ai ci vi Ak ck vk w' (by omega) hp2 hn ((HA.out.below hB5).below h) HSN.out ((hri.below hbw).below h) HNI.out (hrk.below h) HNK.out
            have HZZ : Hid (pairL P sq vi vk = colP P sq M i k) := Lib.hid (by unfold colP; rw [HGI.out, HGK.out])
            obtain ⟨z, hz⟩ : ∃ z, z = pairL P sq vi vk := ⟨_, rfl⟩
            rw [← hz] at HPR HZZ
            have hca5 : wr.cell? ⟨ga, oa + i, none⟩ = some (.int .i64 si) := (hB5.cell (World.block_lt_of_cell? _ _ HCA.out)).trans HCA.out
            clear hz hrk
            obtain ⟨q0, q1⟩ := k5.two
            obtain ⟨q2, q3⟩ := l5.two
            by_cases hik : i = k
            · subst hik
              have eA := EA.out
              subst eA
              have e5 := hci.symm.trans hck
              injection e5 with e5
              injection e5 with e5 _ e6
              subst e5
              subst e6
              obtain ⟨t, ht0⟩ : ∃ t, t = (z != si) := ⟨_, rfl⟩
              have ht1 : (z != si) = t := ht0.symm
              have HZ : Hid ((t = true → R = false) ∧ (t = false → isTo P sq M (fun a => a + 1) i (i + 1))) := Lib.hid ⟨fun h => by rw [HR.out]; exact is_stop (i := i) (k := i) (by rw [HSL.out]; exact hlt) (by rw [HSL.out]; omega) (by rw [← HZZ.out]; unfold colW; rw [if_pos rfl, ← HSI.out]; rw [h] at ht0; simpa using ht0.symm), fun h => HK.out.next (by rw [← HZZ.out]; unfold colW; rw [if_pos rfl, ← HSI.out]; rw [h] at ht0; simpa using ht0.symm)⟩
              have t9 : ((i : Int) == (i : Int)) = true := by simp
              clear ht0
              go_wp2
              refine wp_obs 12 [[], [], [], [1, 2], [1, 2, 3], [], [], [5, 6], [5, 6, 7], [0, 1, 2, 3, 4, 5, 6, 7, 8], [], [0, 1, 2, 3, 4, 5, 6, 7, 8, 9, 10]] [VIs (.agg #[.int .i64 P, .slice (some ⟨ga, oa, none⟩) n c]), VIs (.slice (some ⟨gc, oc, none⟩) n c4), VIs (.int .i64 (i)), VIs (.pointer (some ⟨gc, oc + i, none⟩)), VIs (.slice Ai n ci), VIs (.slice (some ⟨gc, oc, none⟩) n c4), VIs (.int .i64 (i)), VIs (.pointer (some ⟨gc, oc + i, none⟩)), VIs (.slice Ai n ci), VIs (.int .i64 (z)), VIs (.int .i64 (si)), VIs (.bool t)] (fun w' => w'.cell? ⟨gc, oc + i, none⟩ = some (.slice Ai n ci) ∧ w'.cell? ⟨gc, oc + i, none⟩ = some (.slice Ai n ci) ∧ Blk w' (w.heap.size + 1) 26 #[.int .i64 P, .slice (some ⟨ga, oa, none⟩) n c] ∧ Below wr.heap.size wr w') (by kernel_rfl) (by kernel_rfl) (fun _ _ h hb => ⟨(hb.cell (World.block_lt_of_cell? _ _ h.1)).trans h.1, (hb.cell (World.block_lt_of_cell? _ _ h.2.1)).trans h.2.1, h.2.2.1.below hb h.2.2.1.lt, h.2.2.2.trans (hb.mono h.2.2.2.size)⟩) (⟨hci, hci, l5.drew, (Below.refl _ _).drew⟩) (fun x => ?_)
              refine obs_step (Eq.trans (by simp only [zA, zC]; exact rfl) rfl) rfl (fun w' hS hV K hK => ?_) ?_
              · have q4 := hS.1; have q5 := hS.2.1; obtain ⟨q2, q3⟩ := hS.2.2.1.two
                go_simp
                exact hK.out _ _ _ rfl rfl rfl (Below.refl _ _)
              simp only [zD, zE, zF]
              refine obs_step (Eq.trans (by simp only [zA, zB, zC]; exact rfl) rfl) rfl (fun w' hS hV K hK => ?_) ?_
              · have q4 := hS.1; have q5 := hS.2.1; obtain ⟨q2, q3⟩ := hS.2.2.1.two
                go_simp
                exact hK.out _ _ _ rfl rfl rfl (Below.refl _ _)
              simp only [zD, zE, zF]
              refine obs_step (Eq.trans (by simp only [zA, zB, zC]; exact rfl) rfl) rfl (fun w' hS hV K hK => ?_) ?_
              · have q4 := hS.1; have q5 := hS.2.1; obtain ⟨q2, q3⟩ := hS.2.2.1.two
                go_simp
                exact hK.out _ _ _ rfl rfl rfl (Below.refl _ _)
              simp only [zD, zE, zF]
              refine obs_step (Eq.trans (by simp only [zA, zB, zC]; exact rfl) rfl) rfl (fun w' hS hV K hK => ?_) ?_
              · have e1 : x 1 = (.slice (some ⟨gc, oc, none⟩) n c4) := hV 1 (by decide)
                have e2 : x 2 = (.int .i64 (i)) := hV 2 (by decide)
                have q4 := hS.1; have q5 := hS.2.1; obtain ⟨q2, q3⟩ := hS.2.2.1.two
                go_simp
                exact hK.out _ _ _ rfl rfl rfl (Below.refl _ _)
              simp only [zD, zE, zF]
              refine obs_step (Eq.trans (by simp only [zA, zB, zC]; exact rfl) rfl) rfl (fun w' hS hV K hK => ?_) ?_
              · have e3 : x 3 = (.pointer (some ⟨gc, oc + i, none⟩)) := hV 3 (by decide)
                have q4 := hS.1; have q5 := hS.2.1; obtain ⟨q2, q3⟩ := hS.2.2.1.two
                go_simp
                exact hK.out _ _ _ rfl rfl rfl (Below.refl _ _)
              simp only [zD, zE, zF]
              refine obs_step (Eq.trans (by simp only [zA, zB, zC]; exact rfl) rfl) rfl (fun w' hS hV K hK => ?_) ?_
              · have q4 := hS.1; have q5 := hS.2.1; obtain ⟨q2, q3⟩ := hS.2.2.1.two
                go_simp
                exact hK.out _ _ _ rfl rfl rfl (Below.refl _ _)
              simp only [zD, zE, zF]
              refine obs_step (Eq.trans (by simp only [zA, zB, zC]; exact rfl) rfl) rfl (fun w' hS hV K hK => ?_) ?_
              · have q4 := hS.1; have q5 := hS.2.1; obtain ⟨q2, q3⟩ := hS.2.2.1.two
                go_simp
                exact hK.out _ _ _ rfl rfl rfl (Below.refl _ _)
              simp only [zD, zE, zF]
              refine obs_step (Eq.trans (by simp only [zA, zB, zC]; exact rfl) rfl) rfl (fun w' hS hV K hK => ?_) ?_
              · have e5 : x 5 = (.slice (some ⟨gc, oc, none⟩) n c4) := hV 5 (by decide)
                have e6 : x 6 = (.int .i64 (i)) := hV 6 (by decide)
                have q4 := hS.1; have q5 := hS.2.1; obtain ⟨q2, q3⟩ := hS.2.2.1.two
                go_simp
                exact hK.out _ _ _ rfl rfl rfl (Below.refl _ _)
              simp only [zD, zE, zF]
              refine obs_step (Eq.trans (by simp only [zA, zB, zC]; exact rfl) rfl) rfl (fun w' hS hV K hK => ?_) ?_
              · have e7 : x 7 = (.pointer (some ⟨gc, oc + i, none⟩)) := hV 7 (by decide)
                have q4 := hS.1; have q5 := hS.2.1; obtain ⟨q2, q3⟩ := hS.2.2.1.two
                go_simp
                exact hK.out _ _ _ rfl rfl rfl (Below.refl _ _)
              simp only [zD, zE, zF]
              refine obs_step (Eq.trans (by simp only [zA, zB, zC]; exact rfl) rfl) rfl (fun w' hS hV K hK => ?_) ?_
              · have e0 : x 0 = (.agg #[.int .i64 P, .slice (some ⟨ga, oa, none⟩) n c]) := hV 0 (by decide)
                have e4 : x 4 = (.slice Ai n ci) := hV 4 (by decide)
                have e8 : x 8 = (.slice Ai n ci) := hV 8 (by decide)
                have q4 := hS.1; have q5 := hS.2.1; obtain ⟨q2, q3⟩ := hS.2.2.1.two
                go_simp
                refine (HPR.out _ hS.2.2.2).mono ?_
                rintro e v1 ⟨rfl, hb⟩
                exact hK.out _ _ _ rfl rfl rfl hb
              simp only [zD, zE, zF]
              refine obs_step (Eq.trans (by simp only [zA, zB, zC]; exact rfl) rfl) rfl (fun w' hS hV K hK => ?_) ?_
              · have q4 := hS.1; have q5 := hS.2.1; obtain ⟨q2, q3⟩ := hS.2.2.1.two
                go_simp
                exact hK.out _ _ _ rfl rfl rfl (Below.refl _ _)
              simp only [zD, zE, zF]
              refine obs_step (Eq.trans (by simp only [zA, zB, zC]; exact rfl) rfl) rfl (fun w' hS hV K hK => ?_) ?_
              · have e9 : x 9 = (.int .i64 (z)) := hV 9 (by decide)
                have e10 : x 10 = (.int .i64 (si)) := hV 10 (by decide)
                have q4 := hS.1; have q5 := hS.2.1; obtain ⟨q2, q3⟩ := hS.2.2.1.two
                go_simp
                exact hK.out _ _ _ rfl rfl rfl (Below.refl _ _)
              simp only [zD, zE, zF]
              refine fun w' hS hV => ?_
              have e0 : x 0 = (.agg #[.int .i64 P, .slice (some ⟨ga, oa, none⟩) n c]) := hV 0 (by decide)
              have e1 : x 1 = (.slice (some ⟨gc, oc, none⟩) n c4) := hV 1 (by decide)
              have e2 : x 2 = (.int .i64 (i)) := hV 2 (by decide)
              have e3 : x 3 = (.pointer (some ⟨gc, oc + i, none⟩)) := hV 3 (by decide)
              have e4 : x 4 = (.slice Ai n ci) := hV 4 (by decide)
              have e5 : x 5 = (.slice (some ⟨gc, oc, none⟩) n c4) := hV 5 (by decide)
              have e6 : x 6 = (.int .i64 (i)) := hV 6 (by decide)
              have e7 : x 7 = (.pointer (some ⟨gc, oc + i, none⟩)) := hV 7 (by decide)
              have e8 : x 8 = (.slice Ai n ci) := hV 8 (by decide)
              have e9 : x 9 = (.int .i64 (z)) := hV 9 (by decide)
              have e10 : x 10 = (.int .i64 (si)) := hV 10 (by decide)
              have e11 : x 11 = (.bool t) := hV 11 (by decide)
              simp only [e0, e1, e2, e3, e4, e5, e6, e7, e8, e9, e10, e11]
              clear e0 e1 e2 e3 e4 e5 e6 e7 e8 e9 e10 e11
              refine wpAny_done (by kernel_rfl) ?_ _
              have hB6 := hS.2.2.2
              clear hS hci hck l5 k5 q0 q1 q2 q3 ht1 t9
              cases t
              · have HZ1 := Lib.hid (HZ.out.2 rfl)
                clear HZ
                go_wp2
                go_roundw
                case rel => exact ⟨i + 1, by omega, by go_num, hbw.trans (hB6.mono hbw.size), HZ1⟩
                case measure => simp [intOf]; omega
              · obtain rfl : R = false := HZ.out.1 rfl
                clear HZ
                go_wp2
                go_ret
                exact ⟨rfl, hB5.trans (hB6.mono hB5.size)⟩
            · obtain ⟨t, ht0⟩ : ∃ t, t = (z != 0) := ⟨_, rfl⟩
              have ht1 : (z != 0) = t := ht0.symm
              have HZ : Hid ((t = true → R = false) ∧ (t = false → isTo P sq M (fun a => a + 1) i (k + 1))) := Lib.hid ⟨fun h => by rw [HR.out]; exact is_stop (i := i) (k := k) (by rw [HSL.out]; exact hlt) (by rw [HSL.out]; omega) (by rw [← HZZ.out]; unfold colW; rw [if_neg hik]; rw [h] at ht0; simpa using ht0.symm), fun h => HK.out.next (by rw [← HZZ.out]; unfold colW; rw [if_neg hik]; rw [h] at ht0; simpa using ht0.symm)⟩
              have t9 : ((i : Int) == (k : Int)) = false := by rw [beq_eq_false_iff_ne]; omega
              clear ht0 hik
              go_wp2
              refine wp_obs 12 [[], [], [], [1, 2], [1, 2, 3], [], [], [5, 6], [5, 6, 7], [0, 1, 2, 3, 4, 5, 6, 7, 8], [], [0, 1, 2, 3, 4, 5, 6, 7, 8, 9, 10]] [VIs (.agg #[.int .i64 P, .slice A n c]), VIs (.slice (some ⟨gc, oc, none⟩) n c4), VIs (.int .i64 (i)), VIs (.pointer (some ⟨gc, oc + i, none⟩)), VIs (.slice Ai n ci), VIs (.slice (some ⟨gc, oc, none⟩) n c4), VIs (.int .i64 (k)), VIs (.pointer (some ⟨gc, oc + k, none⟩)), VIs (.slice Ak n ck), VIs (.int .i64 (z)), VIs (.int .i64 (0)), VIs (.bool t)] (fun w' => w'.cell? ⟨gc, oc + i, none⟩ = some (.slice Ai n ci) ∧ w'.cell? ⟨gc, oc + k, none⟩ = some (.slice Ak n ck) ∧ Blk w' (w.heap.size + 1) 26 #[.int .i64 P, .slice A n c] ∧ Below wr.heap.size wr w') (by kernel_rfl) (by kernel_rfl) (fun _ _ h hb => ⟨(hb.cell (World.block_lt_of_cell? _ _ h.1)).trans h.1, (hb.cell (World.block_lt_of_cell? _ _ h.2.1)).trans h.2.1, h.2.2.1.below hb h.2.2.1.lt, h.2.2.2.trans (hb.mono h.2.2.2.size)⟩) (⟨hci, hck, l5.drew, (Below.refl _ _).drew⟩) (fun x => ?_)
              refine obs_step (Eq.trans (by simp only [zA, zC]; exact rfl) rfl) rfl (fun w' hS hV K hK => ?_) ?_
              · have q4 := hS.1; have q5 := hS.2.1; obtain ⟨q2, q3⟩ := hS.2.2.1.two
                go_simp
                exact hK.out _ _ _ rfl rfl rfl (Below.refl _ _)
              simp only [zD, zE, zF]
              refine obs_step (Eq.trans (by simp only [zA, zB, zC]; exact rfl) rfl) rfl (fun w' hS hV K hK => ?_) ?_
              · have q4 := hS.1; have q5 := hS.2.1; obtain ⟨q2, q3⟩ := hS.2.2.1.two
                go_simp
                exact hK.out _ _ _ rfl rfl rfl (Below.refl _ _)
              simp only [zD, zE, zF]
              refine obs_step (Eq.trans (by simp only [zA, zB, zC]; exact rfl) rfl) rfl (fun w' hS hV K hK => ?_) ?_
              · have q4 := hS.1; have q5 := hS.2.1; obtain ⟨q2, q3⟩ := hS.2.2.1.two
                go_simp
                exact hK.out _ _ _ rfl rfl rfl (Below.refl _ _)
              simp only [zD, zE, zF]
              refine obs_step (Eq.trans (by simp only [zA, zB, zC]; exact rfl) rfl) rfl (fun w' hS hV K hK => ?_) ?_
              · have e1 : x 1 = (.slice (some ⟨gc, oc, none⟩) n c4) := hV 1 (by decide)
                have e2 : x 2 = (.int .i64 (i)) := hV 2 (by decide)
                have q4 := hS.1; have q5 := hS.2.1; obtain ⟨q2, q3⟩ := hS.2.2.1.two
                go_simp
                exact hK.out _ _ _ rfl rfl rfl (Below.refl _ _)
              simp only [zD, zE, zF]
              refine obs_step (Eq.trans (by simp only [zA, zB, zC]; exact rfl) rfl) rfl (fun w' hS hV K hK => ?_) ?_
              · have e3 : x 3 = (.pointer (some ⟨gc, oc + i, none⟩)) := hV 3 (by decide)
                have q4 := hS.1; have q5 := hS.2.1; obtain ⟨q2, q3⟩ := hS.2.2.1.two
                go_simp
                exact hK.out _ _ _ rfl rfl rfl (Below.refl _ _)
              simp only [zD, zE, zF]
              refine obs_step (Eq.trans (by simp only [zA, zB, zC]; exact rfl) rfl) rfl (fun w' hS hV K hK => ?_) ?_
              · have q4 := hS.1; have q5 := hS.2.1; obtain ⟨q2, q3⟩ := hS.2.2.1.two
                go_simp
                exact hK.out _ _ _ rfl rfl rfl (Below.refl _ _)
              simp only [zD, zE, zF]
              refine obs_step (Eq.trans (by simp only [zA, zB, zC]; exact rfl) rfl) rfl (fun w' hS hV K hK => ?_) ?_
              · have q4 := hS.1; have q5 := hS.2.1; obtain ⟨q2, q3⟩ := hS.2.2.1.two
                go_simp
                exact hK.out _ _ _ rfl rfl rfl (Below.refl _ _)
              simp only [zD, zE, zF]
              refine obs_step (Eq.trans (by simp only [zA, zB, zC]; exact rfl) rfl) rfl (fun w' hS hV K hK => ?_) ?_
              · have e5 : x 5 = (.slice (some ⟨gc, oc, none⟩) n c4) := hV 5 (by decide)
                have e6 : x 6 = (.int .i64 (k)) := hV 6 (by decide)
                have q4 := hS.1; have q5 := hS.2.1; obtain ⟨q2, q3⟩ := hS.2.2.1.two
                go_simp
                exact hK.out _ _ _ rfl rfl rfl (Below.refl _ _)
              simp only [zD, zE, zF]
              refine obs_step (Eq.trans (by simp only [zA, zB, zC]; exact rfl) rfl) rfl (fun w' hS hV K hK => ?_) ?_
              · have e7 : x 7 = (.pointer (some ⟨gc, oc + k, none⟩)) := hV 7 (by decide)
                have q4 := hS.1; have q5 := hS.2.1; obtain ⟨q2, q3⟩ := hS.2.2.1.two
                go_simp
                exact hK.out _ _ _ rfl rfl rfl (Below.refl _ _)
              simp only [zD, zE, zF]
              refine obs_step (Eq.trans (by simp only [zA, zB, zC]; exact rfl) rfl) rfl (fun w' hS hV K hK => ?_) ?_
              · have e0 : x 0 = (.agg #[.int .i64 P, .slice A n c]) := hV 0 (by decide)
                have e4 : x 4 = (.slice Ai n ci) := hV 4 (by decide)
                have e8 : x 8 = (.slice Ak n ck) := hV 8 (by decide)
                have q4 := hS.1; have q5 := hS.2.1; obtain ⟨q2, q3⟩ := hS.2.2.1.two
                go_simp
                refine (HPR.out _ hS.2.2.2).mono ?_
                rintro e v1 ⟨rfl, hb⟩
                exact hK.out _ _ _ rfl rfl rfl hb
              simp only [zD, zE, zF]
              refine obs_step (Eq.trans (by simp only [zA, zB, zC]; exact rfl) rfl) rfl (fun w' hS hV K hK => ?_) ?_
              · have q4 := hS.1; have q5 := hS.2.1; obtain ⟨q2, q3⟩ := hS.2.2.1.two
                go_simp
                exact hK.out _ _ _ rfl rfl rfl (Below.refl _ _)
              simp only [zD, zE, zF]
              refine obs_step (Eq.trans (by simp only [zA, zB, zC]; exact rfl) rfl) rfl (fun w' hS hV K hK => ?_) ?_
              · have e9 : x 9 = (.int .i64 (z)) := hV 9 (by decide)
                have e10 : x 10 = (.int .i64 (0)) := hV 10 (by decide)
                have q4 := hS.1; have q5 := hS.2.1; obtain ⟨q2, q3⟩ := hS.2.2.1.two
                go_simp
                exact hK.out _ _ _ rfl rfl rfl (Below.refl _ _)
              simp only [zD, zE, zF]
              refine fun w' hS hV => ?_
              have e0 : x 0 = (.agg #[.int .i64 P, .slice A n c]) := hV 0 (by decide)
              have e1 : x 1 = (.slice (some ⟨gc, oc, none⟩) n c4) := hV 1 (by decide)
              have e2 : x 2 = (.int .i64 (i)) := hV 2 (by decide)
              have e3 : x 3 = (.pointer (some ⟨gc, oc + i, none⟩)) := hV 3 (by decide)
              have e4 : x 4 = (.slice Ai n ci) := hV 4 (by decide)
              have e5 : x 5 = (.slice (some ⟨gc, oc, none⟩) n c4) := hV 5 (by decide)
              have e6 : x 6 = (.int .i64 (k)) := hV 6 (by decide)
              have e7 : x 7 = (.pointer (some ⟨gc, oc + k, none⟩)) := hV 7 (by decide)
              have e8 : x 8 = (.slice Ak n ck) := hV 8 (by decide)
              have e9 : x 9 = (.int .i64 (z)) := hV 9 (by decide)
              have e10 : x 10 = (.int .i64 (0)) := hV 10 (by decide)
              have e11 : x 11 = (.bool t) := hV 11 (by decide)
              simp only [e0, e1, e2, e3, e4, e5, e6, e7, e8, e9, e10, e11]
              clear e0 e1 e2 e3 e4 e5 e6 e7 e8 e9 e10 e11
              refine wpAny_done (by kernel_rfl) ?_ _
              have hB6 := hS.2.2.2
              clear hS hci hck l5 k5 q0 q1 q2 q3 ht1 t9
              cases t
              · have HZ1 := Lib.hid (HZ.out.2 rfl)
                clear HZ
                go_wp2
                go_roundw
                case rel => exact ⟨k + 1, by omega, by go_num, hbw.trans (hB6.mono hbw.size), HZ1⟩
                case measure => simp [intOf]; omega
              · obtain rfl : R = false := HZ.out.1 rfl
                clear HZ
                go_wp2
                go_ret
                exact ⟨rfl, hB5.trans (hB6.mono hB5.size)⟩
          · have HK1 : Hid (isTo P sq M (fun a => a + 1) (i + 1) 0) := Lib.hid (HK.out.row (show k = i + 1 by omega))
            go_wp2
            go_roundw
            case rel => exact ⟨i + 1, by omega, by go_num, hbw, HK1⟩
            case measure => simp [intOf]; omega
      · obtain rfl : R = true := by
          rw [HR.out]
          have h := HI.out
          rw [show i = sq.length by rw [HSL.out]; omega] at h
          exact h.half (by omega) HFR.out HDN.out
        go_wp2
        go_ret
        exact ⟨rfl, hB4.trans (hbr.mono hB4.size)⟩
  · obtain rfl : R = false := HB.out.1 rfl
    clear HB
    go_wp2
    go_ret
    exact ⟨rfl, hB3⟩
end Go.Proofs.YtdbibmilicjllaaGreat
namespace Go.Proofs.YtdbibmilicjllaaGreat
open Go.RowKit
theorem isIsometry_any (P : Int) (A : Option Addr) (n c : Nat) (sq : List Int) (D : Option Addr) (r d : Nat) (M : List (List Int)) (m : Nat) (w : World) (hsp : isSp P sq = true) (hr0 : 0 < r) (hr : r ≤ 16) (hm1 : 1 ≤ m) (hm : m ≤ 16) (ha : Rd w A n (ints sq)) (hd : RdII w D r M) (hM : Rect m M) :
    Calls Tryz.prog 147 #[.agg #[.int .i64 P, .slice A n c], .agg #[.int .i64 P, .slice A n c], .slice D r d] w fun e w' => e = .returned (.bool (isoB P sq M)) ∧ Below w.heap.size w w' := by
  have hsl := ha.lenI
  obtain ⟨HP, hd1, hd2, hnum⟩ := isSp_dim hsp
  obtain ⟨hp3, hp2⟩ := isP_ge HP
  have hl := hd.len
  have e := frB_rect (P := P) (n := sq.length) hM (by omega)
  rw [hl, hsl] at e
  cases hb : (M.all fun r => nums P r)
  · rw [is_frame (by rw [hsl, e, hb]; rfl)]
    exact isIsometry_0 P A n c sq D r d M m w (by omega) hp2 hr0 hr hm1 hm hd hM hb
    
    
  · by_cases h1 : r = n
    · by_cases h2 : m = n
      · subst h1
        subst h2
        exact isIsometry_sq P A m c sq D d M w HP (by omega) (by omega) ha (nums_numsL hnum) hd (hM.tab hb)
      · rw [is_frame (by rw [hsl, e, hb, decide_eq_true h1, decide_eq_false h2]; rfl)]
        exact isIsometry_2 P A n c sq D r d M m w (by omega) hp2 hr0 hr hm1 hm hd hM hb h1 h2
    · rw [is_frame (by rw [hsl, e, hb, decide_eq_false h1]; rfl)]
      exact isIsometry_1 P A n c sq D r d M m w (by omega) hp2 hr0 hr hm1 hm hd hM hb h1
theorem l03Isometry_any (P : Int) (A : Option Addr) (n c : Nat) (sq : List Int) (D : Option Addr) (r d : Nat) (M : List (List Int)) (m : Nat) (w : World) (hsp : isSp P sq = true) (hr0 : 0 < r) (hr : r ≤ 16) (hm1 : 1 ≤ m) (hm : m ≤ 16) (ha : Rd w A n (ints sq)) (hd : RdII w D r M) (hM : Rect m M) :
    Calls Tryz.prog 332 #[.agg #[.int .i64 P, .slice A n c], .agg #[.int .i64 P, .slice A n c], .slice D r d] w fun e w' => e = .returned (.bool (isoB P sq M)) ∧ Below w.heap.size w w' := by
  have hsl := ha.lenI
  obtain ⟨HP, hd1, hd2, hnum⟩ := isSp_dim hsp
  obtain ⟨hp3, hp2⟩ := isP_ge HP
  have hl := hd.len
  have e := frB_rect (P := P) (n := sq.length) hM (by omega)
  rw [hl, hsl] at e
  cases hb : (M.all fun r => nums P r)
  · rw [is_frame (by rw [hsl, e, hb]; rfl)]
    by_cases h1 : r = n
    · exact l03Isometry_1 P A n c sq D r d M m w HP hr0 hr hm1 hm hd hM h1 hb
    · exact l03Isometry_0 P A n c sq D r d M m w HP hr0 hr hm1 hm hd hM h1
  · by_cases h1 : r = n
    · by_cases h2 : m = n
      · subst h1
        subst h2
        exact l03Isometry_sq P A m c sq D d M w HP (by omega) (by omega) ha (nums_numsL hnum) hd (hM.tab hb)
      · rw [is_frame (by rw [hsl, e, hb, decide_eq_true h1, decide_eq_false h2]; rfl)]
        exact l03Isometry_2 P A n c sq D r d M m w HP hr0 hr hm1 hm hd hM hb h1 h2
    · rw [is_frame (by rw [hsl, e, hb, decide_eq_false h1]; rfl)]
      exact l03Isometry_0 P A n c sq D r d M m w HP hr0 hr hm1 hm hd hM h1
set_option maxHeartbeats 800000 in
set_option maxRecDepth 8000 in
theorem l08Is_any (P : Int) (A : Option Addr) (n c : Nat) (sq : List Int) (D : Option Addr) (r d : Nat) (M : List (List Int)) (m : Nat) (w : World) (hsp : isSp P sq = true) (hr0 : 0 < r) (hr : r ≤ 16) (hm1 : 1 ≤ m) (hm : m ≤ 16) (ha : Rd w A n (ints sq)) (hd : RdII w D r M) (hM : Rect m M) :
    Calls Tryz.prog 152 #[.agg #[.int .i64 P, .slice A n c], .slice D r d] w fun e w' => e = .returned (.bool (isoB P sq M)) ∧ Below w.heap.size w w' := by
  have hB0 : Below w.heap.size w (w.alloc (.cells #[.int .i64 P, .slice A n c] 26)) := (Below.refl _ _).alloc (Nat.le_refl _) _
  have k0 : Blk (w.alloc (.cells #[.int .i64 P, .slice A n c] 26)) w.heap.size 26 #[.int .i64 P, .slice A n c] := Blk.new _ _ _
  have h := l03Isometry_any P A n c sq D r d M m (w.alloc (.cells #[.int .i64 P, .slice A n c] 26)) hsp hr0 hr hm1 hm (ha.below hB0) (hd.below hB0) hM
  obtain ⟨R, hR⟩ : ∃ b, b = isoB P sq M := ⟨_, rfl⟩
  rw [← hR] at h ⊢
  clear hM hsp hR
  obtain ⟨q0, q1⟩ := k0.two
  go_enter Tryz.func152, Tryz.ntmps152
  go_wp2_with fail
  refine h.mono ?_
  rintro e w2 ⟨rfl, hb2⟩
  go_wp2
  go_ret
  exact ⟨rfl, hB0.trans (hb2.mono hB0.size)⟩
/-- The code of a regular space and an isometry. -/
def codeO (P : Int) (sq : List Int) (M : List (List Int)) : Int := if isSp P sq then (if regB sq then (if isoB P sq M then 0 else 2) else 5) else 1
theorem codeO_zero {P : Int} {sq : List Int} {M : List (List Int)} (h : codeO P sq M = 0) : isSp P sq = true ∧ regB sq = true ∧ isoB P sq M = true := by
  unfold codeO at h
  by_cases h1 : isSp P sq = true
  · rw [if_pos h1] at h
    by_cases h2 : regB sq = true
    · rw [if_pos h2] at h
      by_cases h3 : isoB P sq M = true
      · exact ⟨h1, h2, h3⟩
      · rw [if_neg h3] at h; omega
    · rw [if_neg h2] at h; omega
  · rw [if_neg h1] at h; omega
theorem codeO_mk {P : Int} {sq : List Int} {M : List (List Int)} (h1 : isSp P sq = true) (h2 : regB sq = true) (h3 : isoB P sq M = true) : codeO P sq M = 0 := by
  unfold codeO; rw [if_pos h1, if_pos h2, if_pos h3]
theorem isoB_frame {P : Int} {sq : List Int} {M : List (List Int)} (h : isoB P sq M = true) : M.length = sq.length ∧ Tab P sq.length M := by
  unfold isoB at h
  rw [Bool.and_eq_true] at h
  exact frB_iff.1 h.1
set_option maxHeartbeats 1600000 in
set_option maxRecDepth 8000 in
theorem checkOrthogonal_any (P : Int) (A : Option Addr) (n c : Nat) (sq : List Int) (D : Option Addr) (r d : Nat) (M : List (List Int)) (m : Nat) (w : World) (hn : n ≤ 1048576) (hr0 : 0 < r) (hr : r ≤ 16) (hm1 : 1 ≤ m) (hm : m ≤ 16) (ha : Rd w A n (ints sq)) (hd : RdII w D r M) (hM : Rect m M) :
    Calls Tryz.prog 148 #[.agg #[.int .i64 P, .slice A n c], .slice D r d] w fun e w' => e = .returned (.int .i64 (codeO P sq M)) ∧ Below w.heap.size w w' := by
  have hB0 : Below w.heap.size w (w.alloc (.cells #[.int .i64 P, .slice A n c] 26)) := (Below.refl _ _).alloc (Nat.le_refl _) _
  have k0 : Blk (w.alloc (.cells #[.int .i64 P, .slice A n c] 26)) w.heap.size 26 #[.int .i64 P, .slice A n c] := Blk.new _ _ _
  have his := IsSpace_any P A n c sq (w.alloc (.cells #[.int .i64 P, .slice A n c] 26)) (by omega) (ha.below hB0)
  have hrg := Lib.hid fun w' (h : Below w.heap.size w w') => regular_any P A n c sq w' (by omega) (ha.below h)
  cases h1 : isSp P sq
  · rw [h1] at his
    obtain ⟨V, hV⟩ : ∃ V, V = codeO P sq M := ⟨_, rfl⟩
    rw [← hV]
    obtain rfl : V = 1 := hV.trans (by unfold codeO; rw [h1]; rfl)
    clear hV h1 hM hrg hd
    go_enter Tryz.func148, Tryz.ntmps148
    obtain ⟨q0, q1⟩ := k0.two
    go_wp2_with fail
    refine his.mono ?_
    rintro e w2 ⟨rfl, hb2⟩
    have hB2 := hB0.trans (hb2.mono hB0.size)
    have k2 := k0.below hb2 k0.lt
    clear q0 q1
    go_wp2
    go_ret
    exact ⟨rfl, hB2⟩
  · rw [h1] at his
    have hiso := Lib.hid fun w' (h : Below w.heap.size w w') => isIsometry_any P A n c sq D r d M m w' h1 hr0 hr hm1 hm (ha.below h) (hd.below h) hM
    cases h2 : regB sq
    · rw [h2] at hrg
      obtain ⟨V, hV⟩ : ∃ V, V = codeO P sq M := ⟨_, rfl⟩
      rw [← hV]
      obtain rfl : V = 5 := hV.trans (by unfold codeO; rw [h1, h2]; rfl)
      clear hV h1 h2 hM hd hiso
      go_enter Tryz.func148, Tryz.ntmps148
      obtain ⟨q0, q1⟩ := k0.two
      go_wp2_with fail
      refine his.mono ?_
      rintro e w2 ⟨rfl, hb2⟩
      have hB2 := hB0.trans (hb2.mono hB0.size)
      have k2 := k0.below hb2 k0.lt
      clear q0 q1
      obtain ⟨q0, q1⟩ := k2.two
      go_wp2_with fail
      refine (hrg.out w2 hB2).mono ?_
      rintro e w3 ⟨rfl, hb3⟩
      have hB3 := hB2.trans (hb3.mono hB2.size)
      have k3 := k2.below hb3 k2.lt
      clear q0 q1
      go_wp2
      go_ret
      exact ⟨rfl, hB3⟩
    · rw [h2] at hrg
      cases h3 : isoB P sq M
      · rw [h3] at hiso
        obtain ⟨V, hV⟩ : ∃ V, V = codeO P sq M := ⟨_, rfl⟩
        rw [← hV]
        obtain rfl : V = 2 := hV.trans (by unfold codeO; rw [h1, h2, h3]; rfl)
        clear hV h1 h2 h3 hM hd
        go_enter Tryz.func148, Tryz.ntmps148
        obtain ⟨q0, q1⟩ := k0.two
        go_wp2_with fail
        refine his.mono ?_
        rintro e w2 ⟨rfl, hb2⟩
        have hB2 := hB0.trans (hb2.mono hB0.size)
        have k2 := k0.below hb2 k0.lt
        clear q0 q1
        obtain ⟨q0, q1⟩ := k2.two
        go_wp2_with fail
        refine (hrg.out w2 hB2).mono ?_
        rintro e w3 ⟨rfl, hb3⟩
        have hB3 := hB2.trans (hb3.mono hB2.size)
        have k3 := k2.below hb3 k2.lt
        clear q0 q1
        obtain ⟨q0, q1⟩ := k3.two
        go_wp2_with fail
        refine (hiso.out w3 hB3).mono ?_
        rintro e w4 ⟨rfl, hb4⟩
        have hB4 := hB3.trans (hb4.mono hB3.size)
        have k4 := k3.below hb4 k3.lt
        clear q0 q1
        go_wp2
        go_ret
        exact ⟨rfl, hB4⟩
      · rw [h3] at hiso
        obtain ⟨V, hV⟩ : ∃ V, V = codeO P sq M := ⟨_, rfl⟩
        rw [← hV]
        obtain rfl : V = 0 := hV.trans (by unfold codeO; rw [h1, h2, h3]; rfl)
        clear hV h1 h2 h3 hM hd
        go_enter Tryz.func148, Tryz.ntmps148
        obtain ⟨q0, q1⟩ := k0.two
        go_wp2_with fail
        refine his.mono ?_
        rintro e w2 ⟨rfl, hb2⟩
        have hB2 := hB0.trans (hb2.mono hB0.size)
        have k2 := k0.below hb2 k0.lt
        clear q0 q1
        obtain ⟨q0, q1⟩ := k2.two
        go_wp2_with fail
        refine (hrg.out w2 hB2).mono ?_
        rintro e w3 ⟨rfl, hb3⟩
        have hB3 := hB2.trans (hb3.mono hB2.size)
        have k3 := k2.below hb3 k2.lt
        clear q0 q1
        obtain ⟨q0, q1⟩ := k3.two
        go_wp2_with fail
        refine (hiso.out w3 hB3).mono ?_
        rintro e w4 ⟨rfl, hb4⟩
        have hB4 := hB3.trans (hb4.mono hB3.size)
        have k4 := k3.below hb4 k3.lt
        clear q0 q1
        go_wp2
        go_ret
        exact ⟨rfl, hB4⟩
set_option maxHeartbeats 1600000 in
set_option maxRecDepth 8000 in
theorem IsProper_ok (P : Int) (A : Option Addr) (n c : Nat) (sq : List Int) (D : Option Addr) (d : Nat) (M : List (List Int)) (w : World) (hsp : isSp P sq = true) (hreg : regB sq = true) (ha : Rd w A n (ints sq)) (hd : RdII w D n M) (hiso : isoB P sq M = true) :
    Calls Tryz.prog 20 #[.agg #[.int .i64 P, .slice A n c], .slice D n d] w fun e w' => e = .returned (.tuple #[.bool (detL P M == 1), .int .i64 0]) ∧ Below w.heap.size w w' := by
  have hB0 : Below w.heap.size w (w.alloc (.cells #[.int .i64 P, .slice A n c] 26)) := (Below.refl _ _).alloc (Nat.le_refl _) _
  have k0 : Blk (w.alloc (.cells #[.int .i64 P, .slice A n c] 26)) w.heap.size 26 #[.int .i64 P, .slice A n c] := Blk.new _ _ _
  have hsl := ha.lenI
  obtain ⟨HP, hd1, hd2, hnum⟩ := isSp_dim hsp
  obtain ⟨hp3, hp2⟩ := isP_ge HP
  obtain ⟨hl, hT⟩ := isoB_frame hiso
  rw [hsl] at hd1 hd2 hl hT
  have hck := checkOrthogonal_any P A n c sq D n d M n (w.alloc (.cells #[.int .i64 P, .slice A n c] 26)) (by omega) hd1 (by omega) hd1 (by omega) (ha.below hB0) (hd.below hB0) (Rect.of_tab hT)
  rw [codeO_mk hsp hreg hiso] at hck
  have hde := Lib.hid fun w' (h : Below w.heap.size w w') => determinant_any P D n d M w' HP hd1 (by omega) (hd.below h) hT
  have hfi := Lib.hid fun w' => field_any P A n c w'
  obtain ⟨z, hz⟩ : ∃ z, z = detL P M := ⟨_, rfl⟩
  rw [← hz] at hde ⊢
  obtain ⟨b, hb⟩ : ∃ b, b = (z == 1) := ⟨_, rfl⟩
  rw [← hb]
  have hb9 : (z == 1) = b := hb.symm
  clear hsp hreg hiso hT hl hsl hnum HP hz hb
  go_enter Tryz.func20, Tryz.ntmps20
  obtain ⟨q0, q1⟩ := k0.two
  go_wp2_with fail
  refine hck.mono ?_
  rintro e w2 ⟨rfl, hb2⟩
  have hB2 := hB0.trans (hb2.mono hB0.size)
  have k2 := k0.below hb2 k0.lt
  clear q0 q1
  obtain ⟨q0, q1⟩ := k2.two
  go_wp2_with fail
  refine (hfi.out _).mono ?_
  rintro e w3 ⟨rfl, hb3⟩
  have hB3 := hB2.trans (hb3.mono hB2.size)
  go_wp2_with fail
  refine (hde.out w3 hB3).mono ?_
  rintro e w4 ⟨rfl, hb4⟩
  go_wp2
  go_ret2
  exact ⟨rfl, hB3.trans (hb4.mono hB3.size)⟩
end Go.Proofs.YtdbibmilicjllaaGreat
namespace Go.Proofs.YtdbibmilicjllaaGreat
open Go.RowKit
set_option maxHeartbeats 3200000 in
set_option maxRecDepth 8000 in
theorem l08Reflection_any (P : Int) (A : Option Addr) (n c : Nat) (sq : List Int) (U : Option Addr) (cu : Nat) (u : List Int) (w : World) (HP : isP P = true) (hn : n ≤ 6) (h0 : 0 < n) (ha : Rd w A n (ints sq)) (hs : NumsL P sq) (hx : Rd w U n (ints u)) (hu : NumsL P u) (hne : ¬ pairL P sq u u = 0) :
    Calls Tryz.prog 331 #[.agg #[.int .i64 P, .slice A n c], .slice U n cu] w fun e w' => ∃ A' c', e = .returned (.slice A' n c') ∧ MkII w w' A' n c' (rmatL P sq n u) := by
  obtain ⟨hp3, hp2⟩ := isP_ge HP
  have hp : 2 ≤ P := by omega
  have hB0 : Below w.heap.size w (w.alloc (.cells #[.int .i64 P, .slice A n c] 26)) := (Below.refl _ _).alloc (Nat.le_refl _) _
  have k0 : Blk (w.alloc (.cells #[.int .i64 P, .slice A n c] 26)) w.heap.size 26 #[.int .i64 P, .slice A n c] := Blk.new _ _ _
  have hB1 := hB0.alloc (by simp) (.cells #[] 24)
  have k1 := k0.alloc (.cells #[] 24)
  have hM1 : MkII w ((w.alloc (.cells #[.int .i64 P, .slice A n c] 26)).alloc (.cells #[] 24)) (some ⟨w.heap.size + 1, 0, none⟩) 0 0 [] := by
    have := MkII.empty hB0
    simpa using this
  clear k0 hB0
  obtain ⟨q0, q1⟩ := k1.two
  have hmk := make_i (P := Tryz.prog) 24 2 Tryz.underlying24 info_i n (by omega)
  have HNE := Lib.hid hne
  clear hne
  go_enter Tryz.func331, Tryz.ntmps331
  go_wp2
  obtain ⟨w1, hw1⟩ : ∃ W, W = (w.alloc (.cells #[.int .i64 P, .slice A n c] 26)).alloc (.cells #[] 24) := ⟨_, rfl⟩
  rw [← hw1] at hM1 k1 ⊢
  clear hw1 hB1 q0 q1
  go_loopw [5, 6] (fun out i wr => ∃ (k : Nat) (A' : Option Addr) (c' : Nat), k ≤ n ∧ i = .int .i64 k ∧ out = .slice A' k c' ∧ MkII w wr A' k c' (tab k fun k => rflL P sq u (unitRow n k)) ∧ Blk wr w.heap.size 26 #[.int .i64 P, .slice A n c]) (fun _ i _ => n - (intOf i).toNat)
  case atStart => exact ⟨0, _, _, by omega, rfl, rfl, by simpa [tab] using hM1, k1⟩
  case round =>
    obtain ⟨k, A', c', hk, rfl, rfl, hM, k4⟩ := hrel
    clear hM1 k1
    obtain ⟨q0, q1⟩ := k4.two
    by_cases hlt : k < n
    · have hm1 := Mk.made (E := 2) (n := n) (z := .int .i64 0) (Below.refl wr.heap.size wr) (by simp only [maxLen]; omega)
      rw [ints_replicate] at hm1
      obtain ⟨u1, hc1⟩ := hm1.2.cellI hlt
      have hf1 := hm1.2.frozen_ k
      have hm2 := (hm1.set k (.int .i64 1)).1
      rw [ints_set, World.setCell_alloc_at _ _ _ _ _ rfl] at hm2
      have HRU := Lib.hid (show MkI wr _ (some ⟨wr.heap.size, 0, none⟩) n n (unitRow n k) from hm2)
      have k5 := k4.below hm2.b k4.lt
      have HM := Lib.hid hM
      have HUN := Lib.hid (unitRow_nums hp n k)
      have HA := Lib.hid (ha.below (hM.b.trans (hm2.b.mono hM.b.size)))
      have HX := Lib.hid (hx.below (hM.b.trans (hm2.b.mono hM.b.size)))
      have HSQ := Lib.hid hs
      have HXS := Lib.hid hu
      have HPP := Lib.hid HP
      have HBW := Lib.hid hm2.b
      have hcall := l07Reflect_any P A n c sq _ cu u _ n (unitRow n k) _ HPP.out hn HA.out HSQ.out HX.out HXS.out HRU.out.rd HUN.out HNE.out
      obtain ⟨q2, q3⟩ := k5.two
      clear hM hm1 hm2
      go_wp2_with fail
      refine hcall.mono ?_
      rintro e w5 ⟨A5, c5, rfl, hM5⟩
      have hM5' := hM5.after HBW.out
      have k6 := k5.below hM5.b k5.lt
      clear hcall hc1 hf1 q0 q1 q2 q3
      go_wp2_with (at_builtin; refine wpList_appRowG w wr _ rfl _ _ rfl A' k c' _ A5 n c5 _ HM.out hM5' (by omega) rfl ?_ ?_; (go_simp); intro A20 c20 w20 hM20 hg20 hat20)
      have k7 := k6.grown hg20 ((HM.out.below hM5'.b).ne_blk k6 (by decide))
      clear k6 hat20 hg20
      go_roundw
      case rel => exact ⟨k + 1, A20, c20, by omega, by go_num, rfl, by rw [tab_succ]; exact hM20, k7⟩
      case measure => simp [intOf]; omega
    · obtain rfl : k = n := by omega
      have HM := Lib.hid hM
      have htr := l02Turn_any P A' k c' (rcolsL P sq k u) k wr h0 (by omega) (by omega) hM.rd (rcolsL_tab hp sq k u)
      have HLK : Hid (rmatL P sq k u = transL (rcolsL P sq k u)) := Lib.hid rfl
      clear hM
      go_wp2_with fail
      refine htr.mono ?_
      rintro e w5 ⟨A5, c5, rfl, hM5⟩
      go_wp2
      go_ret
      rw [HLK.out]
      exact ⟨_, _, rfl, hM5.after HM.out.b⟩
end Go.Proofs.YtdbibmilicjllaaGreat
namespace Go.Proofs.YtdbibmilicjllaaGreat
open Go.RowKit
/-- IsOrthogonal. -/
def iorR (P : Int) (sq : List Int) (M : List (List Int)) : Bool × Int := if isSp P sq then (if regB sq then (isoB P sq M, 0) else (false, 5)) else (false, 1)
theorem codeO_ior (P : Int) (sq : List Int) (M : List (List Int)) : codeO P sq M = if (iorR P sq M).2 = 0 then (if (iorR P sq M).1 then 0 else 2) else (iorR P sq M).2 := by
  unfold codeO iorR
  cases isSp P sq
  · rfl
  · cases regB sq
    · rfl
    · cases isoB P sq M <;> rfl
set_option maxHeartbeats 1600000 in
set_option maxRecDepth 8000 in
theorem IsOrthogonal_any (P : Int) (A : Option Addr) (n c : Nat) (sq : List Int) (D : Option Addr) (r d : Nat) (M : List (List Int)) (m : Nat) (w : World) (hn : n ≤ 1048576) (hr0 : 0 < r) (hr : r ≤ 16) (hm1 : 1 ≤ m) (hm : m ≤ 16) (ha : Rd w A n (ints sq)) (hd : RdII w D r M) (hM : Rect m M) :
    Calls Tryz.prog 19 #[.agg #[.int .i64 P, .slice A n c], .slice D r d] w fun e w' => e = .returned (.tuple #[.bool (iorR P sq M).1, .int .i64 (iorR P sq M).2]) ∧ Below w.heap.size w w' := by
  have hB0 : Below w.heap.size w (w.alloc (.cells #[.int .i64 P, .slice A n c] 26)) := (Below.refl _ _).alloc (Nat.le_refl _) _
  have k0 : Blk (w.alloc (.cells #[.int .i64 P, .slice A n c] 26)) w.heap.size 26 #[.int .i64 P, .slice A n c] := Blk.new _ _ _
  have his := IsSpace_any P A n c sq (w.alloc (.cells #[.int .i64 P, .slice A n c] 26)) (by omega) (ha.below hB0)
  obtain ⟨R, hR⟩ : ∃ R, R = iorR P sq M := ⟨_, rfl⟩
  rw [← hR]
  cases h1 : isSp P sq
  · rw [h1] at his
    obtain rfl : R = (false, 1) := by rw [hR]; unfold iorR; rw [h1]; rfl
    clear hR h1 hM hd
    go_enter Tryz.func19, Tryz.ntmps19
    obtain ⟨q0, q1⟩ := k0.two
    go_wp2_with fail
    refine his.mono ?_
    rintro e w2 ⟨rfl, hb2⟩
    have hB2 := hB0.trans (hb2.mono hB0.size)
    have k2 := k0.below hb2 k0.lt
    clear q0 q1
    go_wp2
    go_ret2
    exact ⟨rfl, hB2⟩
  · rw [h1] at his
    have hiso := Lib.hid fun w' (h : Below w.heap.size w w') => isIsometry_any P A n c sq D r d M m w' h1 hr0 hr hm1 hm (ha.below h) (hd.below h) hM
    have hrg := Lib.hid fun w' (h : Below w.heap.size w w') => regular_any P A n c sq w' (by omega) (ha.below h)
    cases h2 : regB sq
    · rw [h2] at hrg
      
      obtain rfl : R = (false, 5) := by rw [hR]; unfold iorR; rw [h1, h2]; rfl
      clear hR h1 h2 hM hd hiso
      go_enter Tryz.func19, Tryz.ntmps19
      obtain ⟨q0, q1⟩ := k0.two
      go_wp2_with fail
      refine his.mono ?_
      rintro e w2 ⟨rfl, hb2⟩
      have hB2 := hB0.trans (hb2.mono hB0.size)
      have k2 := k0.below hb2 k0.lt
      clear q0 q1
      obtain ⟨q0, q1⟩ := k2.two
      go_wp2_with fail
      refine (hrg.out w2 hB2).mono ?_
      rintro e w3 ⟨rfl, hb3⟩
      have hB3 := hB2.trans (hb3.mono hB2.size)
      have k3 := k2.below hb3 k2.lt
      clear q0 q1
      go_wp2
      go_ret2
      exact ⟨rfl, hB3⟩
    · rw [h2] at hrg
      
      obtain ⟨b, hb⟩ : ∃ b, b = isoB P sq M := ⟨_, rfl⟩
      obtain rfl : R = (b, 0) := by rw [hR, hb]; unfold iorR; rw [h1, h2]; rfl
      rw [← hb] at hiso
      clear hR h1 h2 hM hd hb
      go_enter Tryz.func19, Tryz.ntmps19
      obtain ⟨q0, q1⟩ := k0.two
      go_wp2_with fail
      refine his.mono ?_
      rintro e w2 ⟨rfl, hb2⟩
      have hB2 := hB0.trans (hb2.mono hB0.size)
      have k2 := k0.below hb2 k0.lt
      clear q0 q1
      obtain ⟨q0, q1⟩ := k2.two
      go_wp2_with fail
      refine (hrg.out w2 hB2).mono ?_
      rintro e w3 ⟨rfl, hb3⟩
      have hB3 := hB2.trans (hb3.mono hB2.size)
      have k3 := k2.below hb3 k2.lt
      clear q0 q1
      obtain ⟨q0, q1⟩ := k3.two
      go_wp2_with fail
      refine (hiso.out w3 hB3).mono ?_
      rintro e w4 ⟨rfl, hb4⟩
      have hB4 := hB3.trans (hb4.mono hB3.size)
      have k4 := k3.below hb4 k3.lt
      clear q0 q1
      go_wp2
      go_ret2
      exact ⟨rfl, hB4⟩
set_option maxHeartbeats 1600000 in
set_option maxRecDepth 8000 in
theorem specIsOrthogonal_any (P : Int) (A : Option Addr) (n c : Nat) (sq : List Int) (D : Option Addr) (r d : Nat) (M : List (List Int)) (m : Nat) (w : World) (hn : n ≤ 1048576) (hr0 : 0 < r) (hr : r ≤ 16) (hm1 : 1 ≤ m) (hm : m ≤ 16) (ha : Rd w A n (ints sq)) (hd : RdII w D r M) (hM : Rect m M) :
    Calls Tryz.prog 28 #[.agg #[.int .i64 P, .slice A n c], .slice D r d] w fun e w' => e = .returned (.tuple #[.bool (iorR P sq M).1, .int .i64 (iorR P sq M).2]) ∧ Below w.heap.size w w' := by
  have hB0 : Below w.heap.size w (w.alloc (.cells #[.int .i64 P, .slice A n c] 26)) := (Below.refl _ _).alloc (Nat.le_refl _) _
  have k0 : Blk (w.alloc (.cells #[.int .i64 P, .slice A n c] 26)) w.heap.size 26 #[.int .i64 P, .slice A n c] := Blk.new _ _ _
  have his := l03Is_any P A n c sq (w.alloc (.cells #[.int .i64 P, .slice A n c] 26)) (by omega) (ha.below hB0)
  obtain ⟨R, hR⟩ : ∃ R, R = iorR P sq M := ⟨_, rfl⟩
  rw [← hR]
  cases h1 : isSp P sq
  · rw [h1] at his
    obtain rfl : R = (false, 1) := by rw [hR]; unfold iorR; rw [h1]; rfl
    clear hR h1 hM hd
    go_enter Tryz.func28, Tryz.ntmps28
    obtain ⟨q0, q1⟩ := k0.two
    go_wp2_with fail
    refine his.mono ?_
    rintro e w2 ⟨rfl, hb2⟩
    have hB2 := hB0.trans (hb2.mono hB0.size)
    have k2 := k0.below hb2 k0.lt
    clear q0 q1
    go_wp2
    go_ret2
    exact ⟨rfl, hB2⟩
  · rw [h1] at his
    have hiso := Lib.hid fun w' (h : Below w.heap.size w w') => l08Is_any P A n c sq D r d M m w' h1 hr0 hr hm1 hm (ha.below h) (hd.below h) hM
    obtain ⟨HP, hd1, hd2, hnum⟩ := isSp_dim h1
    obtain ⟨hp3, hp2⟩ := isP_ge HP
    have hrg := Lib.hid fun w' (h : Below w.heap.size w w') => l03Disc_any P A n c sq w' (by omega) hp2 (by omega) (ha.below h) (nums_numsL hnum)
    have hdr := disc_reg HP (nums_numsL hnum)
    rw [ha.lenI] at hdr
    obtain ⟨z, hz⟩ : ∃ z, z = discT P sq n := ⟨_, rfl⟩
    rw [← hz] at hdr hrg
    clear hz hnum HP
    cases h2 : regB sq
    · rw [h2] at hdr
      have e1 : (z == 0) = true := by simpa using hdr
      obtain rfl : R = (false, 5) := by rw [hR]; unfold iorR; rw [h1, h2]; rfl
      clear hR h1 h2 hM hd hiso
      go_enter Tryz.func28, Tryz.ntmps28
      obtain ⟨q0, q1⟩ := k0.two
      go_wp2_with fail
      refine his.mono ?_
      rintro e w2 ⟨rfl, hb2⟩
      have hB2 := hB0.trans (hb2.mono hB0.size)
      have k2 := k0.below hb2 k0.lt
      clear q0 q1
      obtain ⟨q0, q1⟩ := k2.two
      go_wp2_with fail
      refine (hrg.out w2 hB2).mono ?_
      rintro e w3 ⟨rfl, hb3⟩
      have hB3 := hB2.trans (hb3.mono hB2.size)
      have k3 := k2.below hb3 k2.lt
      clear q0 q1
      go_wp2
      go_ret2
      exact ⟨rfl, hB3⟩
    · rw [h2] at hdr
      have e1 : (z == 0) = false := by simpa using hdr
      obtain ⟨b, hb⟩ : ∃ b, b = isoB P sq M := ⟨_, rfl⟩
      obtain rfl : R = (b, 0) := by rw [hR, hb]; unfold iorR; rw [h1, h2]; rfl
      rw [← hb] at hiso
      clear hR h1 h2 hM hd hb
      go_enter Tryz.func28, Tryz.ntmps28
      obtain ⟨q0, q1⟩ := k0.two
      go_wp2_with fail
      refine his.mono ?_
      rintro e w2 ⟨rfl, hb2⟩
      have hB2 := hB0.trans (hb2.mono hB0.size)
      have k2 := k0.below hb2 k0.lt
      clear q0 q1
      obtain ⟨q0, q1⟩ := k2.two
      go_wp2_with fail
      refine (hrg.out w2 hB2).mono ?_
      rintro e w3 ⟨rfl, hb3⟩
      have hB3 := hB2.trans (hb3.mono hB2.size)
      have k3 := k2.below hb3 k2.lt
      clear q0 q1
      obtain ⟨q0, q1⟩ := k3.two
      go_wp2_with fail
      refine (hiso.out w3 hB3).mono ?_
      rintro e w4 ⟨rfl, hb4⟩
      have hB4 := hB3.trans (hb4.mono hB3.size)
      have k4 := k3.below hb4 k3.lt
      clear q0 q1
      go_wp2
      go_ret2
      exact ⟨rfl, hB4⟩
set_option maxHeartbeats 1600000 in
set_option maxRecDepth 8000 in
theorem l08Code_any (P : Int) (A : Option Addr) (n c : Nat) (sq : List Int) (D : Option Addr) (r d : Nat) (M : List (List Int)) (m : Nat) (w : World) (hn : n ≤ 1048576) (hr0 : 0 < r) (hr : r ≤ 16) (hm1 : 1 ≤ m) (hm : m ≤ 16) (ha : Rd w A n (ints sq)) (hd : RdII w D r M) (hM : Rect m M) :
    Calls Tryz.prog 154 #[.agg #[.int .i64 P, .slice A n c], .slice D r d] w fun e w' => e = .returned (.int .i64 (codeO P sq M)) ∧ Below w.heap.size w w' := by
  have hB0 : Below w.heap.size w (w.alloc (.cells #[.int .i64 P, .slice A n c] 26)) := (Below.refl _ _).alloc (Nat.le_refl _) _
  have k0 : Blk (w.alloc (.cells #[.int .i64 P, .slice A n c] 26)) w.heap.size 26 #[.int .i64 P, .slice A n c] := Blk.new _ _ _
  have hio := specIsOrthogonal_any P A n c sq D r d M m (w.alloc (.cells #[.int .i64 P, .slice A n c] 26)) hn hr0 hr hm1 hm (ha.below hB0) (hd.below hB0) hM
  obtain ⟨V, hV⟩ : ∃ V, V = codeO P sq M := ⟨_, rfl⟩
  rw [← hV]
  have hC := codeO_ior P sq M
  rw [← hV] at hC
  obtain ⟨⟨b, z⟩, hR⟩ : ∃ R, R = iorR P sq M := ⟨_, rfl⟩
  rw [← hR] at hC hio
  have HC : Hid (V = if z = 0 then (if b then 0 else 2) else z) := Lib.hid hC
  clear hC hR hV hM hd
  by_cases hz : z = 0
  · subst hz
    cases b
    · obtain rfl : V = 2 := HC.out
      go_enter Tryz.func154, Tryz.ntmps154
      obtain ⟨q0, q1⟩ := k0.two
      go_wp2_with fail
      refine hio.mono ?_
      rintro e w2 ⟨rfl, hb2⟩
      have hB2 := hB0.trans (hb2.mono hB0.size)
      have k2 := k0.below hb2 k0.lt
      clear q0 q1
      go_wp2
      go_ret
      exact ⟨rfl, hB2⟩
    · obtain rfl : V = 0 := HC.out
      go_enter Tryz.func154, Tryz.ntmps154
      obtain ⟨q0, q1⟩ := k0.two
      go_wp2_with fail
      refine hio.mono ?_
      rintro e w2 ⟨rfl, hb2⟩
      have hB2 := hB0.trans (hb2.mono hB0.size)
      have k2 := k0.below hb2 k0.lt
      clear q0 q1
      go_wp2
      go_ret
      exact ⟨rfl, hB2⟩
  · obtain rfl : V = z := by rw [HC.out, if_neg hz]
    have e1 : (V == 0) = false := by simp [hz]
    go_enter Tryz.func154, Tryz.ntmps154
    obtain ⟨q0, q1⟩ := k0.two
    go_wp2_with fail
    refine hio.mono ?_
    rintro e w2 ⟨rfl, hb2⟩
    have hB2 := hB0.trans (hb2.mono hB0.size)
    have k2 := k0.below hb2 k0.lt
    clear q0 q1
    go_wp2
    go_ret
    exact ⟨rfl, hB2⟩
set_option maxHeartbeats 1600000 in
set_option maxRecDepth 8000 in
theorem refCol_any (g gx : Nat) (P : Int) (A : Option Addr) (n c : Nat) (sq : List Int) (U : Option Addr) (cu : Nat) (u : List Int) (Y : Option Addr) (cy : Nat) (v : List Int) (w : World) (HP : isP P = true) (hn : n ≤ 6) (ha : Rd w A n (ints sq)) (hs : NumsL P sq) (hx : Rd w U n (ints u)) (hu : NumsL P u) (hy : Rd w Y n (ints v)) (hys : NumsL P v) (hne : ¬ pairL P sq u u = 0) (kg : Blk w g 26 #[.int .i64 P, .slice A n c]) (kx : Blk w gx 24 #[.slice U n cu]) :
    Calls Tryz.prog 337 #[.slice Y n cy, .pointer (some ⟨g, 0, none⟩), .pointer (some ⟨gx, 0, none⟩)] w fun e w' => ∃ A' c', e = .returned (.slice A' n c') ∧ MkI w w' A' n c' (rflL P sq u v) := by
  obtain ⟨q0, q1⟩ := kg.two
  have qx := kx.cell 0
  simp only [zA, zC] at qx
  have hcall := reflected_any P A n c sq U cu u Y cy v w HP hn ha hs hx hu hy hys hne
  go_enter Tryz.func337, Tryz.ntmps337
  go_wp2_with fail
  refine hcall.mono ?_
  rintro e w2 ⟨A2, c2, rfl, hM⟩
  go_wp2
  go_ret
  exact ⟨_, _, rfl, hM⟩
set_option maxHeartbeats 1600000 in
set_option maxRecDepth 8000 in
theorem reflection_any (P : Int) (A : Option Addr) (n c : Nat) (sq : List Int) (U : Option Addr) (cu : Nat) (u : List Int) (w : World) (HP : isP P = true) (hn : n ≤ 6) (h0 : 0 < n) (ha : Rd w A n (ints sq)) (hs : NumsL P sq) (hx : Rd w U n (ints u)) (hu : NumsL P u) (hne : ¬ pairL P sq u u = 0) :
    Calls Tryz.prog 170 #[.agg #[.int .i64 P, .slice A n c], .slice U n cu] w fun e w' => ∃ A' c', e = .returned (.slice A' n c') ∧ MkII w w' A' n c' (rmatL P sq n u) := by
  obtain ⟨hp3, hp2⟩ := isP_ge HP
  have hB0 : Below w.heap.size w (w.alloc (.cells #[.int .i64 P, .slice A n c] 26)) := (Below.refl _ _).alloc (Nat.le_refl _) _
  have k0 : Blk (w.alloc (.cells #[.int .i64 P, .slice A n c] 26)) w.heap.size 26 #[.int .i64 P, .slice A n c] := Blk.new _ _ _
  have hB1 : Below w.heap.size w ((w.alloc (.cells #[.int .i64 P, .slice A n c] 26)).alloc (.cells #[.slice U n cu] 24)) := hB0.alloc (by simp) _
  have k1 : Blk ((w.alloc (.cells #[.int .i64 P, .slice A n c] 26)).alloc (.cells #[.slice U n cu] 24)) w.heap.size 26 #[.int .i64 P, .slice A n c] := k0.alloc _
  have kx : Blk ((w.alloc (.cells #[.int .i64 P, .slice A n c] 26)).alloc (.cells #[.slice U n cu] 24)) (w.heap.size + 1) 24 #[.slice U n cu] := Blk.newAt3 (by simp)
  have HMV := Lib.hid (matrixBy_any 337 ⟨w.heap.size, 0, none⟩ ⟨w.heap.size + 1, 0, none⟩ (fun k => rflL P sq u (unitRow n k)) (fun _ _ => by rfl) P A n c ((w.alloc (.cells #[.int .i64 P, .slice A n c] 26)).alloc (.cells #[.slice U n cu] 24)) (by omega) hn h0 (fun _ _ => ⟨by rw [rflL_len, unitRow_len], rflL_nums (by omega) _ _ _⟩)
    (fun k w' Y cy _ hb hy hcy => refCol_any w.heap.size (w.heap.size + 1) P A n c sq U cu u Y cy (unitRow n k) w' HP hn ((ha.below hB1).below hb) hs ((hx.below hB1).below hb) hu hy (unitRow_nums (by omega) n k) hne (k1.below hb k1.lt) (kx.below hb kx.lt)))
  obtain ⟨q0, q1⟩ := k1.two
  have qx := kx.cell 0
  simp only [zA, zC] at qx
  clear k0 kx hne
  go_enter Tryz.func170, Tryz.ntmps170
  go_wp2_with fail
  refine HMV.out.mono ?_
  rintro e w4 ⟨A4, c4, rfl, hM⟩
  go_wp2
  go_ret
  exact ⟨_, _, rfl, hM.after hB1⟩
end Go.Proofs.YtdbibmilicjllaaGreat
