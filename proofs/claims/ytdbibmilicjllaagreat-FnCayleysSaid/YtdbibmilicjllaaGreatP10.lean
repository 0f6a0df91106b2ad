/-
  LawFnCayleys: part 10 of the texts that the proof needs. No condition.
-/
import Derived.Test.YtdbibmilicjllaaGreatP9
namespace Go.Proofs.YtdbibmilicjllaaGreat
open Go.RowKit
set_option maxHeartbeats 6400000 in
set_option maxRecDepth 8000 in
theorem isIsometry_sq (P : Int) (A : Option Addr) (n c : Nat) (sq : List Int) (D : Option Addr) (d : Nat) (M : List (List Int)) (w : World) (HP : isP P = true) (hn0 : 0 < n) (hn : n ≤ 6) (ha : Rd w A n (ints sq)) (hs : NumsL P sq) (hd : RdII w D n M) (hM : Tab P n M) :
    Calls Tryz.prog 147 #[.agg #[.int .i64 P, .slice A n c], .agg #[.int .i64 P, .slice A n c], .slice D n d] w fun e w' => e = .returned (.bool (isoB P sq M)) ∧ Below w.heap.size w w' := by
  have t7 : (P != P) = false := by simp
  have t6 : ((n : Int) != (n : Int)) = false := by simp
  have hB0 : Below w.heap.size w ((w.alloc (.cells #[.int .i64 P, .slice A n c] 26)).alloc (.cells #[.int .i64 P, .slice A n c] 26)) := ((Below.refl _ _).alloc (Nat.le_refl _) _).alloc (by simp) _
  have k0 : Blk ((w.alloc (.cells #[.int .i64 P, .slice A n c] 26)).alloc (.cells #[.int .i64 P, .slice A n c] 26)) w.heap.size 26 #[.int .i64 P, .slice A n c] := (Blk.new _ _ _).alloc _
  have k1 : Blk ((w.alloc (.cells #[.int .i64 P, .slice A n c] 26)).alloc (.cells #[.int .i64 P, .slice A n c] 26)) (w.heap.size + 1) 26 #[.int .i64 P, .slice A n c] := Blk.newAt3 (by simp)
  obtain ⟨hp3, hp2⟩ := isP_ge HP
  have HTT : Hid (Tab P n (transL M) ∧ (transL M).length = n) := Lib.hid (trans_ok (by omega) hM (hd.len) hn0)
  have HM := Lib.hid hM
  have HSN := Lib.hid hs
  have HSL := Lib.hid ha.lenI
  have HFR : Hid (frB P sq.length M = true) := Lib.hid (frB_iff.2 ⟨hd.len.trans ha.lenI.symm, by rw [ha.lenI]; exact hM⟩)
  obtain ⟨R, hR⟩ : ∃ b, b = isoB P sq M := ⟨_, rfl⟩
  rw [← hR]
  have HR := Lib.hid hR
  obtain ⟨dd, hdd⟩ : ∃ x, x = detL P M := ⟨_, rfl⟩
  have HD := Lib.hid hdd
  have HIM := Lib.hid fun w' (h : Below w.heap.size w w') => isMatrix_ok P D n d M n w' (by omega) hp2 hn0 (by omega) hn0 (by omega) (hd.below h) hM
  have HDE := Lib.hid fun w' (h : Below w.heap.size w w') => determinant_any P D n d M w' HP hn0 (by omega) (hd.below h) hM
  rw [← hdd] at HDE
  have HTP := Lib.hid fun w' (h : Below w.heap.size w w') => transpose_any P D n d M n w' hn0 (by omega) (by omega) (hd.below h) hM
  have HA := Lib.hid ha
  obtain ⟨b, hb0⟩ : ∃ b, b = (dd == 0) := ⟨_, rfl⟩
  have hb1 : (dd == 0) = b := hb0.symm
  have HB : Hid ((b = true → R = false) ∧ (b = false → detL P M ≠ 0)) := Lib.hid ⟨fun h => by rw [HR.out]; exact is_det (by rw [← hdd]; rw [h] at hb0; simpa using hb0.symm), fun h => by rw [← hdd]; rw [h] at hb0; simpa using hb0.symm⟩
  obtain ⟨g, o, rfl, hx0, A0, c0, hc0, -, -⟩ := (hd.below hB0).at_ hn0
  rw [(hM M[0] (List.getElem_mem hx0)).1, Nat.add_zero] at hc0
  clear hM hd hs ha hR hdd hb0 HP hx0
  obtain ⟨q0, q1⟩ := k0.two
  obtain ⟨q2, q3⟩ := k1.two
  go_enter Tryz.func147, Tryz.ntmps147
  go_wp2
  refine wp_obs 42 [[], [0], [], [2], [0, 1, 2, 3], [0, 1, 2, 3, 4], [0, 1, 2, 3, 4, 5], [0, 1, 2, 3, 4, 5, 6], [0, 1, 2, 3, 4, 5], [0, 1, 2, 3, 4, 5, 8], [0, 1, 2, 3, 4, 5, 6, 7, 8, 9], [0, 1, 2, 3, 4, 5, 6, 7, 8, 9, 10], [0, 1, 2, 3, 4, 5, 6, 7, 8, 9, 10, 11], [0, 1, 2, 3, 4, 5, 6, 7, 8, 9, 10, 11, 12], [0, 1, 2, 3, 4, 5, 6, 7, 8, 9, 10, 11, 12, 13], [0, 1, 2, 3, 4, 5, 6, 7, 8, 9, 10, 11, 12], [0, 1, 2, 3, 4, 5, 6, 7, 8, 9, 10, 11, 12, 13, 14, 15], [0, 1, 2, 3, 4, 5, 6, 7, 8, 9, 10, 11, 12, 13, 14, 15, 16], [0, 1, 2, 3, 4, 5, 6, 7, 8, 9, 10, 11, 12, 13, 14, 15, 16, 17], [0, 1, 2, 3, 4, 5, 6, 7, 8, 9, 10, 11, 12, 13, 14, 15, 16, 17, 18], [0, 1, 2, 3, 4, 5, 6, 7, 8, 9, 10, 11, 12, 13, 14, 15, 16, 17, 18, 19], [0, 1, 2, 3, 4, 5, 6, 7, 8, 9, 10, 11, 12, 13, 14, 15, 16, 17, 18, 19, 20], [0, 1, 2, 3, 4, 5, 6, 7, 8, 9, 10, 11, 12, 13, 14, 15, 16, 17, 18, 19], [0, 1, 2, 3, 4, 5, 6, 7, 8, 9, 10, 11, 12, 13, 14, 15, 16, 17, 18, 19, 22], [0, 1, 2, 3, 4, 5, 6, 7, 8, 9, 10, 11, 12, 13, 14, 15, 16, 17, 18, 19, 20, 21, 22, 23], [0, 1, 2, 3, 4, 5, 6, 7, 8, 9, 10, 11, 12, 13, 14, 15, 16, 17, 18, 19, 20, 21, 22, 23, 24], [0, 1, 2, 3, 4, 5, 6, 7, 8, 9, 10, 11, 12, 13, 14, 15, 16, 17, 18, 19, 20, 21, 22, 23, 24, 25], [0, 1, 2, 3, 4, 5, 6, 7, 8, 9, 10, 11, 12, 13, 14, 15, 16, 17, 18, 19, 20, 21, 22, 23, 24, 25, 26], [0, 1, 2, 3, 4, 5, 6, 7, 8, 9, 10, 11, 12, 13, 14, 15, 16, 17, 18, 19, 20, 21, 22, 23, 24, 25, 26, 27], [0, 1, 2, 3, 4, 5, 6, 7, 8, 9, 10, 11, 12, 13, 14, 15, 16, 17, 18, 19, 20, 21, 22, 23, 24, 25, 26, 27, 28], [0, 1, 2, 3, 4, 5, 6, 7, 8, 9, 10, 11, 12, 13, 14, 15, 16, 17, 18, 19, 20, 21, 22, 23, 24, 25, 26, 27, 28, 29], [0, 1, 2, 3, 4, 5, 6, 7, 8, 9, 10, 11, 12, 13, 14, 15, 16, 17, 18, 19, 20, 21, 22, 23, 24, 25, 26], [0, 1, 2, 3, 4, 5, 6, 7, 8, 9, 10, 11, 12, 13, 14, 15, 16, 17, 18, 19, 20, 21, 22, 23, 24, 25, 26, 31], [0, 1, 2, 3, 4, 5, 6, 7, 8, 9, 10, 11, 12, 13, 14, 15, 16, 17, 18, 19, 20, 21, 22, 23, 24, 25, 26, 27, 28, 29, 30, 31, 32], [0, 1, 2, 3, 4, 5, 6, 7, 8, 9, 10, 11, 12, 13, 14, 15, 16, 17, 18, 19, 20, 21, 22, 23, 24, 25, 26, 27, 28, 29, 30, 31, 32, 33], [0, 1, 2, 3, 4, 5, 6, 7, 8, 9, 10, 11, 12, 13, 14, 15, 16, 17, 18, 19, 20, 21, 22, 23, 24, 25, 26, 27, 28, 29, 30, 31, 32, 33, 34], [0, 1, 2, 3, 4, 5, 6, 7, 8, 9, 10, 11, 12, 13, 14, 15, 16, 17, 18, 19, 20, 21, 22, 23, 24, 25, 26, 27, 28, 29, 30, 31, 32, 33, 34, 35], [0, 1, 2, 3, 4, 5, 6, 7, 8, 9, 10, 11, 12, 13, 14, 15, 16, 17, 18, 19, 20, 21, 22, 23, 24, 25, 26, 27, 28, 29, 30, 31, 32, 33, 34, 35, 36], [0, 1, 2, 3, 4, 5, 6, 7, 8, 9, 10, 11, 12, 13, 14, 15, 16, 17, 18, 19, 20, 21, 22, 23, 24, 25, 26, 27, 28, 29, 30, 31, 32, 33, 34, 35], [0, 1, 2, 3, 4, 5, 6, 7, 8, 9, 10, 11, 12, 13, 14, 15, 16, 17, 18, 19, 20, 21, 22, 23, 24, 25, 26, 27, 28, 29, 30, 31, 32, 33, 34, 35, 36, 37, 38], [0, 1, 2, 3, 4, 5, 6, 7, 8, 9, 10, 11, 12, 13, 14, 15, 16, 17, 18, 19, 20, 21, 22, 23, 24, 25, 26, 27, 28, 29, 30, 31, 32, 33, 34, 35, 36, 37, 38, 39], [0, 1, 2, 3, 4, 5, 6, 7, 8, 9, 10, 11, 12, 13, 14, 15, 16, 17, 18, 19, 20, 21, 22, 23, 24, 25, 26, 27, 28, 29, 30, 31, 32, 33, 34, 35, 36, 37, 38, 39, 40]] [VIs (.pointer (some ⟨w.heap.size, 0, none⟩)), VIs (.int .i64 (P)), VIs (.pointer (some ⟨w.heap.size + 1, 0, none⟩)), VIs (.int .i64 (P)), VIs (.bool false), VIs (.bool false), VIs (.agg #[.int .i64 P, .slice A n c]), VIs (.int .i64 (n)), VIs (.agg #[.int .i64 P, .slice A n c]), VIs (.int .i64 (n)), VIs (.bool false), VIs (.bool false), VIs (.bool false), VIs (.agg #[.int .i64 P, .slice A n c]), VIs (.int .i64 (P)), VIs (.slice (some ⟨g, o, none⟩) n d), VIs (.bool true), VIs (.bool false), VIs (.bool false), VIs (.bool false), VIs (.slice (some ⟨g, o, none⟩) n d), VIs (.int .i64 (n)), VIs (.agg #[.int .i64 P, .slice A n c]), VIs (.int .i64 (n)), VIs (.bool false), VIs (.bool false), VIs (.bool false), VIs (.slice (some ⟨g, o, none⟩) n d), VIs (.pointer (some ⟨g, o, none⟩)), VIs (.slice A0 n c0), VIs (.int .i64 (n)), VIs (.agg #[.int .i64 P, .slice A n c]), VIs (.int .i64 (n)), VIs (.bool false), VIs (.bool false), VIs (.bool false), VIs (.agg #[.int .i64 P, .slice A n c]), VIs (.int .i64 (P)), VIs (.slice (some ⟨g, o, none⟩) n d), VIs (.int .i64 (dd)), VIs (.bool b), VIs (.bool b)] (fun w' => w'.cell? ⟨g, o, none⟩ = some (.slice A0 n c0) ∧ Blk w' w.heap.size 26 #[.int .i64 P, .slice A n c] ∧ Blk w' (w.heap.size + 1) 26 #[.int .i64 P, .slice A n c] ∧ Below w.heap.size w w') (by kernel_rfl) (by kernel_rfl) (fun _ _ h hb => ⟨(hb.cell (World.block_lt_of_cell? _ _ h.1)).trans h.1, h.2.1.below hb h.2.1.lt, h.2.2.1.below hb h.2.2.1.lt, h.2.2.2.trans (hb.mono h.2.2.2.size)⟩) (⟨hc0, k0.drew, k1.drew, hB0.drew⟩) (fun x => ?_)
  refine obs_step (Eq.trans (by simp only [zA, zC]; exact rfl) rfl) rfl (fun w' hS hV K hK => ?_) ?_
  · have q9 := hS.1; obtain ⟨q0, q1⟩ := hS.2.1.two; obtain ⟨q2, q3⟩ := hS.2.2.1.two
    go_simp
    exact hK.out _ _ _ rfl rfl rfl (Below.refl _ _)
  simp only [zD, zE, zF]
  refine obs_step (Eq.trans (by simp only [zA, zB, zC]; exact rfl) rfl) rfl (fun w' hS hV K hK => ?_) ?_
  · have e0 : x 0 = (.pointer (some ⟨w.heap.size, 0, none⟩)) := hV 0 (by decide)
    have q9 := hS.1; obtain ⟨q0, q1⟩ := hS.2.1.two; obtain ⟨q2, q3⟩ := hS.2.2.1.two
    go_simp
    exact hK.out _ _ _ rfl rfl rfl (Below.refl _ _)
  simp only [zD, zE, zF]
  refine obs_step (Eq.trans (by simp only [zA, zB, zC]; exact rfl) rfl) rfl (fun w' hS hV K hK => ?_) ?_
  · have q9 := hS.1; obtain ⟨q0, q1⟩ := hS.2.1.two; obtain ⟨q2, q3⟩ := hS.2.2.1.two
    go_simp
    exact hK.out _ _ _ rfl rfl rfl (Below.refl _ _)
  simp only [zD, zE, zF]
  refine obs_step (Eq.trans (by simp only [zA, zB, zC]; exact rfl) rfl) rfl (fun w' hS hV K hK => ?_) ?_
  · have e2 : x 2 = (.pointer (some ⟨w.heap.size + 1, 0, none⟩)) := hV 2 (by decide)
    have q9 := hS.1; obtain ⟨q0, q1⟩ := hS.2.1.two; obtain ⟨q2, q3⟩ := hS.2.2.1.two
    go_simp
    exact hK.out _ _ _ rfl rfl rfl (Below.refl _ _)
  simp only [zD, zE, zF]
  refine obs_step (Eq.trans (by simp only [zA, zB, zC]; exact rfl) rfl) rfl (fun w' hS hV K hK => ?_) ?_
  · have e1 : x 1 = (.int .i64 (P)) := hV 1 (by decide)
    have e3 : x 3 = (.int .i64 (P)) := hV 3 (by decide)
    have q9 := hS.1; obtain ⟨q0, q1⟩ := hS.2.1.two; obtain ⟨q2, q3⟩ := hS.2.2.1.two
    go_simp
    exact hK.out _ _ _ rfl rfl rfl (Below.refl _ _)
  simp only [zD, zE, zF]
  refine obs_step (Eq.trans (by simp only [zA, zB, zC]; exact rfl) rfl) rfl (fun w' hS hV K hK => ?_) ?_
  · have e4 : x 4 = (.bool false) := hV 4 (by decide)
    have q9 := hS.1; obtain ⟨q0, q1⟩ := hS.2.1.two; obtain ⟨q2, q3⟩ := hS.2.2.1.two
    go_simp
    exact hK.out _ _ _ rfl rfl rfl (Below.refl _ _)
  simp only [zD, zE, zF]
  refine obs_step (Eq.trans (by simp only [zA, zB, zC]; exact rfl) rfl) rfl (fun w' hS hV K hK => ?_) ?_
  · have e5 : x 5 = (.bool false) := hV 5 (by decide)
    have q9 := hS.1; obtain ⟨q0, q1⟩ := hS.2.1.two; obtain ⟨q2, q3⟩ := hS.2.2.1.two
    go_simp
    exact hK.out _ _ _ rfl rfl rfl (Below.refl _ _)
  simp only [zD, zE, zF]
  refine obs_step (Eq.trans (by simp only [zA, zB, zC]; exact rfl) rfl) rfl (fun w' hS hV K hK => ?_) ?_
  · have e5 : x 5 = (.bool false) := hV 5 (by decide)
    have e6 : x 6 = (.agg #[.int .i64 P, .slice A n c]) := hV 6 (by decide)
    have q9 := hS.1; obtain ⟨q0, q1⟩ := hS.2.1.two; obtain ⟨q2, q3⟩ := hS.2.2.1.two
    go_simp
    refine (dim_any _ _ _ _ _).mono ?_
    rintro e v1 ⟨rfl, hb⟩
    exact hK.out _ _ _ rfl rfl rfl hb
  simp only [zD, zE, zF]
  refine obs_step (Eq.trans (by simp only [zA, zB, zC]; exact rfl) rfl) rfl (fun w' hS hV K hK => ?_) ?_
  · have e5 : x 5 = (.bool false) := hV 5 (by decide)
    have q9 := hS.1; obtain ⟨q0, q1⟩ := hS.2.1.two; obtain ⟨q2, q3⟩ := hS.2.2.1.two
    go_simp
    exact hK.out _ _ _ rfl rfl rfl (Below.refl _ _)
  simp only [zD, zE, zF]
  refine obs_step (Eq.trans (by simp only [zA, zB, zC]; exact rfl) rfl) rfl (fun w' hS hV K hK => ?_) ?_
  · have e5 : x 5 = (.bool false) := hV 5 (by decide)
    have e8 : x 8 = (.agg #[.int .i64 P, .slice A n c]) := hV 8 (by decide)
    have q9 := hS.1; obtain ⟨q0, q1⟩ := hS.2.1.two; obtain ⟨q2, q3⟩ := hS.2.2.1.two
    go_simp
    refine (dim_any _ _ _ _ _).mono ?_
    rintro e v1 ⟨rfl, hb⟩
    exact hK.out _ _ _ rfl rfl rfl hb
  simp only [zD, zE, zF]
  refine obs_step (Eq.trans (by simp only [zA, zB, zC]; exact rfl) rfl) rfl (fun w' hS hV K hK => ?_) ?_
  · have e5 : x 5 = (.bool false) := hV 5 (by decide)
    have e7 : x 7 = (.int .i64 (n)) := hV 7 (by decide)
    have e9 : x 9 = (.int .i64 (n)) := hV 9 (by decide)
    have q9 := hS.1; obtain ⟨q0, q1⟩ := hS.2.1.two; obtain ⟨q2, q3⟩ := hS.2.2.1.two
    go_simp
    exact hK.out _ _ _ rfl rfl rfl (Below.refl _ _)
  simp only [zD, zE, zF]
  refine obs_step (Eq.trans (by simp only [zA, zB, zC]; exact rfl) rfl) rfl (fun w' hS hV K hK => ?_) ?_
  · have e5 : x 5 = (.bool false) := hV 5 (by decide)
    have e10 : x 10 = (.bool false) := hV 10 (by decide)
    have q9 := hS.1; obtain ⟨q0, q1⟩ := hS.2.1.two; obtain ⟨q2, q3⟩ := hS.2.2.1.two
    go_simp
    exact hK.out _ _ _ rfl rfl rfl (Below.refl _ _)
  simp only [zD, zE, zF]
  refine obs_step (Eq.trans (by simp only [zA, zB, zC]; exact rfl) rfl) rfl (fun w' hS hV K hK => ?_) ?_
  · have e11 : x 11 = (.bool false) := hV 11 (by decide)
    have q9 := hS.1; obtain ⟨q0, q1⟩ := hS.2.1.two; obtain ⟨q2, q3⟩ := hS.2.2.1.two
    go_simp
    exact hK.out _ _ _ rfl rfl rfl (Below.refl _ _)
  simp only [zD, zE, zF]
  refine obs_step (Eq.trans (by simp only [zA, zB, zC]; exact rfl) rfl) rfl (fun w' hS hV K hK => ?_) ?_
  · have e12 : x 12 = (.bool false) := hV 12 (by decide)
    have q9 := hS.1; obtain ⟨q0, q1⟩ := hS.2.1.two; obtain ⟨q2, q3⟩ := hS.2.2.1.two
    go_simp
    exact hK.out _ _ _ rfl rfl rfl (Below.refl _ _)
  simp only [zD, zE, zF]
  refine obs_step (Eq.trans (by simp only [zA, zB, zC]; exact rfl) rfl) rfl (fun w' hS hV K hK => ?_) ?_
  · have e12 : x 12 = (.bool false) := hV 12 (by decide)
    have e13 : x 13 = (.agg #[.int .i64 P, .slice A n c]) := hV 13 (by decide)
    have q9 := hS.1; obtain ⟨q0, q1⟩ := hS.2.1.two; obtain ⟨q2, q3⟩ := hS.2.2.1.two
    go_simp
    refine (field_any _ _ _ _ _).mono ?_
    rintro e v1 ⟨rfl, hb⟩
    exact hK.out _ _ _ rfl rfl rfl hb
  simp only [zD, zE, zF]
  refine obs_step (Eq.trans (by simp only [zA, zB, zC]; exact rfl) rfl) rfl (fun w' hS hV K hK => ?_) ?_
  · have e12 : x 12 = (.bool false) := hV 12 (by decide)
    have q9 := hS.1; obtain ⟨q0, q1⟩ := hS.2.1.two; obtain ⟨q2, q3⟩ := hS.2.2.1.two
    go_simp
    exact hK.out _ _ _ rfl rfl rfl (Below.refl _ _)
  simp only [zD, zE, zF]
  refine obs_step (Eq.trans (by simp only [zA, zB, zC]; exact rfl) rfl) rfl (fun w' hS hV K hK => ?_) ?_
  · have e12 : x 12 = (.bool false) := hV 12 (by decide)
    have e14 : x 14 = (.int .i64 (P)) := hV 14 (by decide)
    have e15 : x 15 = (.slice (some ⟨g, o, none⟩) n d) := hV 15 (by decide)
    have q9 := hS.1; obtain ⟨q0, q1⟩ := hS.2.1.two; obtain ⟨q2, q3⟩ := hS.2.2.1.two
    go_simp
    refine (HIM.out _ hS.2.2.2).mono ?_
    rintro e v1 ⟨rfl, rfl⟩
    exact hK.out _ _ _ rfl rfl rfl (Below.refl _ _)
  simp only [zD, zE, zF]
  refine obs_step (Eq.trans (by simp only [zA, zB, zC]; exact rfl) rfl) rfl (fun w' hS hV K hK => ?_) ?_
  · have e12 : x 12 = (.bool false) := hV 12 (by decide)
    have e16 : x 16 = (.bool true) := hV 16 (by decide)
    have q9 := hS.1; obtain ⟨q0, q1⟩ := hS.2.1.two; obtain ⟨q2, q3⟩ := hS.2.2.1.two
    go_simp
    exact hK.out _ _ _ rfl rfl rfl (Below.refl _ _)
  simp only [zD, zE, zF]
  refine obs_step (Eq.trans (by simp only [zA, zB, zC]; exact rfl) rfl) rfl (fun w' hS hV K hK => ?_) ?_
  · have e12 : x 12 = (.bool false) := hV 12 (by decide)
    have e17 : x 17 = (.bool false) := hV 17 (by decide)
    have q9 := hS.1; obtain ⟨q0, q1⟩ := hS.2.1.two; obtain ⟨q2, q3⟩ := hS.2.2.1.two
    go_simp
    exact hK.out _ _ _ rfl rfl rfl (Below.refl _ _)
  simp only [zD, zE, zF]
  refine obs_step (Eq.trans (by simp only [zA, zB, zC]; exact rfl) rfl) rfl (fun w' hS hV K hK => ?_) ?_
  · have e18 : x 18 = (.bool false) := hV 18 (by decide)
    have q9 := hS.1; obtain ⟨q0, q1⟩ := hS.2.1.two; obtain ⟨q2, q3⟩ := hS.2.2.1.two
    go_simp
    exact hK.out _ _ _ rfl rfl rfl (Below.refl _ _)
  simp only [zD, zE, zF]
  refine obs_step (Eq.trans (by simp only [zA, zB, zC]; exact rfl) rfl) rfl (fun w' hS hV K hK => ?_) ?_
  · have e19 : x 19 = (.bool false) := hV 19 (by decide)
    have q9 := hS.1; obtain ⟨q0, q1⟩ := hS.2.1.two; obtain ⟨q2, q3⟩ := hS.2.2.1.two
    go_simp
    exact hK.out _ _ _ rfl rfl rfl (Below.refl _ _)
  simp only [zD, zE, zF]
  refine obs_step (Eq.trans (by simp only [zA, zB, zC]; exact rfl) rfl) rfl (fun w' hS hV K hK => ?_) ?_
  · have e19 : x 19 = (.bool false) := hV 19 (by decide)
    have e20 : x 20 = (.slice (some ⟨g, o, none⟩) n d) := hV 20 (by decide)
    have q9 := hS.1; obtain ⟨q0, q1⟩ := hS.2.1.two; obtain ⟨q2, q3⟩ := hS.2.2.1.two
    go_simp
    exact hK.out _ _ _ rfl rfl rfl (Below.refl _ _)
  simp only [zD, zE, zF]
  refine obs_step (Eq.trans (by simp only [zA, zB, zC]; exact rfl) rfl) rfl (fun w' hS hV K hK => ?_) ?_
  · have e19 : x 19 = (.bool false) := hV 19 (by decide)
    have q9 := hS.1; obtain ⟨q0, q1⟩ := hS.2.1.two; obtain ⟨q2, q3⟩ := hS.2.2.1.two
    go_simp
    exact hK.out _ _ _ rfl rfl rfl (Below.refl _ _)
  simp only [zD, zE, zF]
  refine obs_step (Eq.trans (by simp only [zA, zB, zC]; exact rfl) rfl) rfl (fun w' hS hV K hK => ?_) ?_
  · have e19 : x 19 = (.bool false) := hV 19 (by decide)
    have e22 : x 22 = (.agg #[.int .i64 P, .slice A n c]) := hV 22 (by decide)
    have q9 := hS.1; obtain ⟨q0, q1⟩ := hS.2.1.two; obtain ⟨q2, q3⟩ := hS.2.2.1.two
    go_simp
    refine (dim_any _ _ _ _ _).mono ?_
    rintro e v1 ⟨rfl, hb⟩
    exact hK.out _ _ _ rfl rfl rfl hb
  simp only [zD, zE, zF]
  refine obs_step (Eq.trans (by simp only [zA, zB, zC]; exact rfl) rfl) rfl (fun w' hS hV K hK => ?_) ?_
  · have e19 : x 19 = (.bool false) := hV 19 (by decide)
    have e21 : x 21 = (.int .i64 (n)) := hV 21 (by decide)
    have e23 : x 23 = (.int .i64 (n)) := hV 23 (by decide)
    have q9 := hS.1; obtain ⟨q0, q1⟩ := hS.2.1.two; obtain ⟨q2, q3⟩ := hS.2.2.1.two
    go_simp
    exact hK.out _ _ _ rfl rfl rfl (Below.refl _ _)
  simp only [zD, zE, zF]
  refine obs_step (Eq.trans (by simp only [zA, zB, zC]; exact rfl) rfl) rfl (fun w' hS hV K hK => ?_) ?_
  · have e19 : x 19 = (.bool false) := hV 19 (by decide)
    have e24 : x 24 = (.bool false) := hV 24 (by decide)
    have q9 := hS.1; obtain ⟨q0, q1⟩ := hS.2.1.two; obtain ⟨q2, q3⟩ := hS.2.2.1.two
    go_simp
    exact hK.out _ _ _ rfl rfl rfl (Below.refl _ _)
  simp only [zD, zE, zF]
  refine obs_step (Eq.trans (by simp only [zA, zB, zC]; exact rfl) rfl) rfl (fun w' hS hV K hK => ?_) ?_
  · have e25 : x 25 = (.bool false) := hV 25 (by decide)
    have q9 := hS.1; obtain ⟨q0, q1⟩ := hS.2.1.two; obtain ⟨q2, q3⟩ := hS.2.2.1.two
    go_simp
    exact hK.out _ _ _ rfl rfl rfl (Below.refl _ _)
  simp only [zD, zE, zF]
  refine obs_step (Eq.trans (by simp only [zA, zB, zC]; exact rfl) rfl) rfl (fun w' hS hV K hK => ?_) ?_
  · have e26 : x 26 = (.bool false) := hV 26 (by decide)
    have q9 := hS.1; obtain ⟨q0, q1⟩ := hS.2.1.two; obtain ⟨q2, q3⟩ := hS.2.2.1.two
    go_simp
    exact hK.out _ _ _ rfl rfl rfl (Below.refl _ _)
  simp only [zD, zE, zF]
  refine obs_step (Eq.trans (by simp only [zA, zB, zC]; exact rfl) rfl) rfl (fun w' hS hV K hK => ?_) ?_
  · have e26 : x 26 = (.bool false) := hV 26 (by decide)
    have e27 : x 27 = (.slice (some ⟨g, o, none⟩) n d) := hV 27 (by decide)
    have q9 := hS.1; obtain ⟨q0, q1⟩ := hS.2.1.two; obtain ⟨q2, q3⟩ := hS.2.2.1.two
    go_simp
    exact hK.out _ _ _ rfl rfl rfl (Below.refl _ _)
  simp only [zD, zE, zF]
  refine obs_step (Eq.trans (by simp only [zA, zB, zC]; exact rfl) rfl) rfl (fun w' hS hV K hK => ?_) ?_
  · have e26 : x 26 = (.bool false) := hV 26 (by decide)
    have e28 : x 28 = (.pointer (some ⟨g, o, none⟩)) := hV 28 (by decide)
    have q9 := hS.1; obtain ⟨q0, q1⟩ := hS.2.1.two; obtain ⟨q2, q3⟩ := hS.2.2.1.two
    go_simp
    exact hK.out _ _ _ rfl rfl rfl (Below.refl _ _)
  simp only [zD, zE, zF]
  refine obs_step (Eq.trans (by simp only [zA, zB, zC]; exact rfl) rfl) rfl (fun w' hS hV K hK => ?_) ?_
  · have e26 : x 26 = (.bool false) := hV 26 (by decide)
    have e29 : x 29 = (.slice A0 n c0) := hV 29 (by decide)
    have q9 := hS.1; obtain ⟨q0, q1⟩ := hS.2.1.two; obtain ⟨q2, q3⟩ := hS.2.2.1.two
    go_simp
    exact hK.out _ _ _ rfl rfl rfl (Below.refl _ _)
  simp only [zD, zE, zF]
  refine obs_step (Eq.trans (by simp only [zA, zB, zC]; exact rfl) rfl) rfl (fun w' hS hV K hK => ?_) ?_
  · have e26 : x 26 = (.bool false) := hV 26 (by decide)
    have q9 := hS.1; obtain ⟨q0, q1⟩ := hS.2.1.two; obtain ⟨q2, q3⟩ := hS.2.2.1.two
    go_simp
    exact hK.out _ _ _ rfl rfl rfl (Below.refl _ _)
  simp only [zD, zE, zF]
  refine obs_step (Eq.trans (by simp only [zA, zB, zC]; exact rfl) rfl) rfl (fun w' hS hV K hK => ?_) ?_
  · have e26 : x 26 = (.bool false) := hV 26 (by decide)
    have e31 : x 31 = (.agg #[.int .i64 P, .slice A n c]) := hV 31 (by decide)
    have q9 := hS.1; obtain ⟨q0, q1⟩ := hS.2.1.two; obtain ⟨q2, q3⟩ := hS.2.2.1.two
    go_simp
    refine (dim_any _ _ _ _ _).mono ?_
    rintro e v1 ⟨rfl, hb⟩
    exact hK.out _ _ _ rfl rfl rfl hb
  simp only [zD, zE, zF]
  refine obs_step (Eq.trans (by simp only [zA, zB, zC]; exact rfl) rfl) rfl (fun w' hS hV K hK => ?_) ?_
  · have e26 : x 26 = (.bool false) := hV 26 (by decide)
    have e30 : x 30 = (.int .i64 (n)) := hV 30 (by decide)
    have e32 : x 32 = (.int .i64 (n)) := hV 32 (by decide)
    have q9 := hS.1; obtain ⟨q0, q1⟩ := hS.2.1.two; obtain ⟨q2, q3⟩ := hS.2.2.1.two
    go_simp
    exact hK.out _ _ _ rfl rfl rfl (Below.refl _ _)
  simp only [zD, zE, zF]
  refine obs_step (Eq.trans (by simp only [zA, zB, zC]; exact rfl) rfl) rfl (fun w' hS hV K hK => ?_) ?_
  · have e26 : x 26 = (.bool false) := hV 26 (by decide)
    have e33 : x 33 = (.bool false) := hV 33 (by decide)
    have q9 := hS.1; obtain ⟨q0, q1⟩ := hS.2.1.two; obtain ⟨q2, q3⟩ := hS.2.2.1.two
    go_simp
    exact hK.out _ _ _ rfl rfl rfl (Below.refl _ _)
  simp only [zD, zE, zF]
  refine obs_step (Eq.trans (by simp only [zA, zB, zC]; exact rfl) rfl) rfl (fun w' hS hV K hK => ?_) ?_
  · have e34 : x 34 = (.bool false) := hV 34 (by decide)
    have q9 := hS.1; obtain ⟨q0, q1⟩ := hS.2.1.two; obtain ⟨q2, q3⟩ := hS.2.2.1.two
    go_simp
    exact hK.out _ _ _ rfl rfl rfl (Below.refl _ _)
  simp only [zD, zE, zF]
  refine obs_step (Eq.trans (by simp only [zA, zB, zC]; exact rfl) rfl) rfl (fun w' hS hV K hK => ?_) ?_
  · have e35 : x 35 = (.bool false) := hV 35 (by decide)
    have q9 := hS.1; obtain ⟨q0, q1⟩ := hS.2.1.two; obtain ⟨q2, q3⟩ := hS.2.2.1.two
    go_simp
    exact hK.out _ _ _ rfl rfl rfl (Below.refl _ _)
  simp only [zD, zE, zF]
  refine obs_step (Eq.trans (by simp only [zA, zB, zC]; exact rfl) rfl) rfl (fun w' hS hV K hK => ?_) ?_
  · have e35 : x 35 = (.bool false) := hV 35 (by decide)
    have e36 : x 36 = (.agg #[.int .i64 P, .slice A n c]) := hV 36 (by decide)
    have q9 := hS.1; obtain ⟨q0, q1⟩ := hS.2.1.two; obtain ⟨q2, q3⟩ := hS.2.2.1.two
    go_simp
    refine (field_any _ _ _ _ _).mono ?_
    rintro e v1 ⟨rfl, hb⟩
    exact hK.out _ _ _ rfl rfl rfl hb
  simp only [zD, zE, zF]
  refine obs_step (Eq.trans (by simp only [zA, zB, zC]; exact rfl) rfl) rfl (fun w' hS hV K hK => ?_) ?_
  · have e35 : x 35 = (.bool false) := hV 35 (by decide)
    have q9 := hS.1; obtain ⟨q0, q1⟩ := hS.2.1.two; obtain ⟨q2, q3⟩ := hS.2.2.1.two
    go_simp
    exact hK.out _ _ _ rfl rfl rfl (Below.refl _ _)
  simp only [zD, zE, zF]
  refine obs_step (Eq.trans (by simp only [zA, zB, zC]; exact rfl) rfl) rfl (fun w' hS hV K hK => ?_) ?_
  · have e35 : x 35 = (.bool false) := hV 35 (by decide)
    have e37 : x 37 = (.int .i64 (P)) := hV 37 (by decide)
    have e38 : x 38 = (.slice (some ⟨g, o, none⟩) n d) := hV 38 (by decide)
    have q9 := hS.1; obtain ⟨q0, q1⟩ := hS.2.1.two; obtain ⟨q2, q3⟩ := hS.2.2.1.two
    go_simp
    refine (HDE.out _ hS.2.2.2).mono ?_
    rintro e v1 ⟨rfl, hb⟩
    exact hK.out _ _ _ rfl rfl rfl hb
  simp only [zD, zE, zF]
  refine obs_step (Eq.trans (by simp only [zA, zB, zC]; exact rfl) rfl) rfl (fun w' hS hV K hK => ?_) ?_
  · have e35 : x 35 = (.bool false) := hV 35 (by decide)
    have e39 : x 39 = (.int .i64 (dd)) := hV 39 (by decide)
    have q9 := hS.1; obtain ⟨q0, q1⟩ := hS.2.1.two; obtain ⟨q2, q3⟩ := hS.2.2.1.two
    go_simp
    exact hK.out _ _ _ rfl rfl rfl (Below.refl _ _)
  simp only [zD, zE, zF]
  refine obs_step (Eq.trans (by simp only [zA, zB, zC]; exact rfl) rfl) rfl (fun w' hS hV K hK => ?_) ?_
  · have e35 : x 35 = (.bool false) := hV 35 (by decide)
    have e40 : x 40 = (.bool b) := hV 40 (by decide)
    have q9 := hS.1; obtain ⟨q0, q1⟩ := hS.2.1.two; obtain ⟨q2, q3⟩ := hS.2.2.1.two
    go_simp
    exact hK.out _ _ _ rfl rfl rfl (Below.refl _ _)
  simp only [zD, zE, zF]
  refine fun w' hS hV => ?_
  have e0 : x 0 = (.pointer (some ⟨w.heap.size, 0, none⟩)) := hV 0 (by decide)
  have e1 : x 1 = (.int .i64 (P)) := hV 1 (by decide)
  have e2 : x 2 = (.pointer (some ⟨w.heap.size + 1, 0, none⟩)) := hV 2 (by decide)
  have e3 : x 3 = (.int .i64 (P)) := hV 3 (by decide)
  have e4 : x 4 = (.bool false) := hV 4 (by decide)
  have e5 : x 5 = (.bool false) := hV 5 (by decide)
  have e6 : x 6 = (.agg #[.int .i64 P, .slice A n c]) := hV 6 (by decide)
  have e7 : x 7 = (.int .i64 (n)) := hV 7 (by decide)
  have e8 : x 8 = (.agg #[.int .i64 P, .slice A n c]) := hV 8 (by decide)
  have e9 : x 9 = (.int .i64 (n)) := hV 9 (by decide)
  have e10 : x 10 = (.bool false) := hV 10 (by decide)
  have e11 : x 11 = (.bool false) := hV 11 (by decide)
  have e12 : x 12 = (.bool false) := hV 12 (by decide)
  have e13 : x 13 = (.agg #[.int .i64 P, .slice A n c]) := hV 13 (by decide)
  have e14 : x 14 = (.int .i64 (P)) := hV 14 (by decide)
  have e15 : x 15 = (.slice (some ⟨g, o, none⟩) n d) := hV 15 (by decide)
  have e16 : x 16 = (.bool true) := hV 16 (by decide)
  have e17 : x 17 = (.bool false) := hV 17 (by decide)
  have e18 : x 18 = (.bool false) := hV 18 (by decide)
  have e19 : x 19 = (.bool false) := hV 19 (by decide)
  have e20 : x 20 = (.slice (some ⟨g, o, none⟩) n d) := hV 20 (by decide)
  have e21 : x 21 = (.int .i64 (n)) := hV 21 (by decide)
  have e22 : x 22 = (.agg #[.int .i64 P, .slice A n c]) := hV 22 (by decide)
  have e23 : x 23 = (.int .i64 (n)) := hV 23 (by decide)
  have e24 : x 24 = (.bool false) := hV 24 (by decide)
  have e25 : x 25 = (.bool false) := hV 25 (by decide)
  have e26 : x 26 = (.bool false) := hV 26 (by decide)
  have e27 : x 27 = (.slice (some ⟨g, o, none⟩) n d) := hV 27 (by decide)
  have e28 : x 28 = (.pointer (some ⟨g, o, none⟩)) := hV 28 (by decide)
  have e29 : x 29 = (.slice A0 n c0) := hV 29 (by decide)
  have e30 : x 30 = (.int .i64 (n)) := hV 30 (by decide)
  have e31 : x 31 = (.agg #[.int .i64 P, .slice A n c]) := hV 31 (by decide)
  have e32 : x 32 = (.int .i64 (n)) := hV 32 (by decide)
  have e33 : x 33 = (.bool false) := hV 33 (by decide)
  have e34 : x 34 = (.bool false) := hV 34 (by decide)
  have e35 : x 35 = (.bool false) := hV 35 (by decide)
  have e36 : x 36 = (.agg #[.int .i64 P, .slice A n c]) := hV 36 (by decide)
  have e37 : x 37 = (.int .i64 (P)) := hV 37 (by decide)
  have e38 : x 38 = (.slice (some ⟨g, o, none⟩) n d) := hV 38 (by decide)
  have e39 : x 39 = (.int .i64 (dd)) := hV 39 (by decide)
  have e40 : x 40 = (.bool b) := hV 40 (by decide)
  have e41 : x 41 = (.bool b) := hV 41 (by decide)
  simp only [e0, e1, e2, e3, e4, e5, e6, e7, e8, e9, e10, e11, e12, e13, e14, e15, e16, e17, e18, e19, e20, e21, e22, e23, e24, e25, e26, e27, e28, e29, e30, e31, e32, e33, e34, e35, e36, e37, e38, e39, e40, e41]
  clear e0 e1 e2 e3 e4 e5 e6 e7 e8 e9 e10 e11 e12 e13 e14 e15 e16 e17 e18 e19 e20 e21 e22 e23 e24 e25 e26 e27 e28 e29 e30 e31 e32 e33 e34 e35 e36 e37 e38 e39 e40 e41
  refine wpAny_done (by kernel_rfl) ?_ _
  obtain ⟨w3, rfl⟩ : ∃ W, W = w' := ⟨_, rfl⟩
  have k3 := hS.2.1
  have l3 := hS.2.2.1
  have hB3 := hS.2.2.2
  clear hS q0 q1 q2 q3 k0 k1 hB0 hc0 hb1
  cases b
  · have HDN := Lib.hid (HB.out.2 rfl)
    clear HB
    go_wp2_with fail
    refine (HTP.out w3 hB3).mono ?_
    rintro e w4 ⟨A4, c4, rfl, hM4⟩
    have k4 := k3.below hM4.b k3.lt
    have l4 := l3.below hM4.b l3.lt
    have hB4 := hB3.trans (hM4.b.mono hB3.size)
    have C4 := hM4.rd
    clear k3 l3 hB3 hM4
    go_wp2
    go_loopw [59] (fun i wr => ∃ j : Nat, j ≤ n ∧ i = .int .i64 j ∧ Below w4.heap.size w4 wr ∧ Hid (isTo P sq M (fun _ => sq.length) j 0)) (fun i _ => n - (intOf i).toNat)
    case atStart => exact ⟨0, by omega, rfl, Below.refl _ _, Lib.hid ⟨fun a ha => absurd ha (by omega), fun b hb => absurd hb (by omega)⟩⟩
    case round =>
      obtain ⟨i, hi, rfl, hbr, HI⟩ := hrel
      by_cases hlt : i < n
      · obtain ⟨gc, oc, rfl, hxi, Ai, ci, hci4, hri, -⟩ := C4.at_ hlt
        have hci := (hbr.cell (World.block_lt_of_cell? _ _ hci4)).trans hci4
        clear hci4
        have ht := HTT.out.1 _ (List.getElem_mem hxi)
        have li := ht.1
        rw [li] at hci hri
        have HNI := Lib.hid ht.2
        have HGI : Hid ((transL M).getD i [] = (transL M)[i]) := Lib.hid (getD_of_lt [] hxi)
        obtain ⟨vi, hvi⟩ : ∃ v, v = (transL M)[i] := ⟨_, rfl⟩
        rw [← hvi] at hri HNI HGI
        clear hvi ht li hxi
        obtain ⟨si, hsi⟩ : ∃ s, s = sq.getD i 0 := ⟨_, rfl⟩
        have HSI := Lib.hid hsi
        obtain ⟨ga, oa, eA, hxa, hca⟩ := HA.out.int hlt
        have hsv : sq[i] = si := by rw [hsi, getD_of_lt 0 hxa]
        rw [hsv] at hca
        have EA := Lib.hid eA
        clear hsi hsv hxa eA
        go_wp2
        go_loopw [66] (fun k wr => ∃ j : Nat, j ≤ n ∧ k = .int .i64 j ∧ Below w4.heap.size w4 wr ∧ Hid (isTo P sq M (fun _ => sq.length) i j)) (fun i _ => n - (intOf i).toNat)
        case atStart => exact ⟨0, by omega, rfl, hbr, HI⟩
        case round =>
          obtain ⟨k, hk, rfl, hb2, HK⟩ := hrel
          clear hbr hci
          by_cases hkt : k < n
          · obtain ⟨gc', oc', e9, hxk, Ak, ck, hck, hrk, -⟩ := (C4.below hb2).at_ hkt
            cases e9
            have ht := HTT.out.1 _ (List.getElem_mem hxk)
            have lk := ht.1
            rw [lk] at hck hrk
            have HNK := Lib.hid ht.2
            have HGK : Hid ((transL M).getD k [] = (transL M)[k]) := Lib.hid (getD_of_lt [] hxk)
            obtain ⟨vk, hvk⟩ : ∃ v, v = (transL M)[k] := ⟨_, rfl⟩
            rw [← hvk] at hrk HNK HGK
            clear hvk ht lk hxk
            have hB5 := hB4.trans (hb2.mono hB4.size)
            have k5 := k4.below hb2 k4.lt
            have l5 := l4.below hb2 l4.lt
            have hpr := pair_any P A n c sq Ai ci vi Ak ck vk wr (by omega) hp2 hn (HA.out.below hB5) HSN.out (hri.below hb2) HNI.out hrk HNK.out
            have HZZ : Hid (pairL P sq vi vk = colP P sq M i k) := Lib.hid (by unfold colP; rw [HGI.out, HGK.out])
            obtain ⟨z, hz⟩ : ∃ z, z = pairL P sq vi vk := ⟨_, rfl⟩
            rw [← hz] at hpr HZZ
            have hca5 : wr.cell? ⟨ga, oa + i, none⟩ = some (.int .i64 si) := (hB5.cell (World.block_lt_of_cell? _ _ hca)).trans hca
            have eA := EA.out
            subst eA
            clear hz hrk
            obtain ⟨q0, q1⟩ := k5.two
            obtain ⟨q2, q3⟩ := l5.two
            by_cases hik : i = k
            · subst hik
              obtain ⟨t, ht0⟩ : ∃ t, t = (z != si) := ⟨_, rfl⟩
              have ht1 : (z != si) = t := ht0.symm
              have HZ : Hid ((t = true → R = false) ∧ (t = false → isTo P sq M (fun _ => sq.length) i (i + 1))) := Lib.hid ⟨fun h => by rw [HR.out]; exact is_stop (by rw [HSL.out]; exact hlt) (by rw [HSL.out]; exact hlt) (by rw [← HZZ.out]; unfold colW; rw [if_pos rfl, ← HSI.out]; rw [h] at ht0; simpa using ht0.symm), fun h => HK.out.next (by rw [← HZZ.out]; unfold colW; rw [if_pos rfl, ← HSI.out]; rw [h] at ht0; simpa using ht0.symm)⟩
              have t9 : ((i : Int) == (i : Int)) = true := by simp
              clear ht0
              go_wp2_with fail
              refine hpr.mono ?_
              rintro e w6 ⟨rfl, hb6⟩
              clear hpr q0 q1 q2 q3
              cases t
              · have HZ1 := Lib.hid (HZ.out.2 rfl)
                clear HZ
                go_wp2
                go_roundw
                case rel => exact ⟨i + 1, by omega, by go_num, hb2.trans (hb6.mono hb2.size), HZ1⟩
                case measure => simp [intOf]; omega
              · obtain rfl : R = false := HZ.out.1 rfl
                clear HZ
                go_wp2
                go_ret
                exact ⟨rfl, hB5.trans (hb6.mono hB5.size)⟩
            · obtain ⟨t, ht0⟩ : ∃ t, t = (z != 0) := ⟨_, rfl⟩
              have ht1 : (z != 0) = t := ht0.symm
              have HZ : Hid ((t = true → R = false) ∧ (t = false → isTo P sq M (fun _ => sq.length) i (k + 1))) := Lib.hid ⟨fun h => by rw [HR.out]; exact is_stop (by rw [HSL.out]; exact hlt) (by rw [HSL.out]; exact hkt) (by rw [← HZZ.out]; unfold colW; rw [if_neg hik]; rw [h] at ht0; simpa using ht0.symm), fun h => HK.out.next (by rw [← HZZ.out]; unfold colW; rw [if_neg hik]; rw [h] at ht0; simpa using ht0.symm)⟩
              have t9 : ((i : Int) == (k : Int)) = false := by rw [beq_eq_false_iff_ne]; omega
              clear ht0 hik
              go_wp2_with fail
              refine hpr.mono ?_
              rintro e w6 ⟨rfl, hb6⟩
              clear hpr q0 q1 q2 q3
              cases t
              · have HZ1 := Lib.hid (HZ.out.2 rfl)
                clear HZ
                go_wp2
                go_roundw
                case rel => exact ⟨k + 1, by omega, by go_num, hb2.trans (hb6.mono hb2.size), HZ1⟩
                case measure => simp [intOf]; omega
              · obtain rfl : R = false := HZ.out.1 rfl
                clear HZ
                go_wp2
                go_ret
                exact ⟨rfl, hB5.trans (hb6.mono hB5.size)⟩
          · have HK1 : Hid (isTo P sq M (fun _ => sq.length) (i + 1) 0) := Lib.hid (HK.out.row (by rw [HSL.out]; omega))
            go_wp2
            go_roundw
            case rel => exact ⟨i + 1, by omega, by go_num, hb2, HK1⟩
            case measure => simp [intOf]; omega
      · obtain rfl : R = true := by
          rw [HR.out]
          have h := HI.out
          rw [show i = sq.length by rw [HSL.out]; omega] at h
          exact h.full HFR.out HDN.out
        go_wp2
        go_ret
        exact ⟨rfl, hB4.trans (hbr.mono hB4.size)⟩
  · obtain rfl : R = false := HB.out.1 rfl
    clear HB
    go_wp2
    go_ret
    exact ⟨rfl, hB3⟩
end Go.Proofs.YtdbibmilicjllaaGreat
namespace Go.Proofs.YtdbibmilicjllaaGreat
open Go.RowKit
set_option maxHeartbeats 3200000 in
set_option maxRecDepth 8000 in
theorem isIsometry_0 (P : Int) (A : Option Addr) (n c : Nat) (sq : List Int) (D : Option Addr) (r d : Nat) (M : List (List Int)) (m : Nat) (w : World) (hp0 : 0 < P) (hp1 : P ≤ 13) (hr0 : 0 < r) (hr : r ≤ 16) (hm1 : 1 ≤ m) (hm : m ≤ 16) (hd : RdII w D r M) (hM : Rect m M) (hb : (M.all fun r => nums P r) = false) :
    Calls Tryz.prog 147 #[.agg #[.int .i64 P, .slice A n c], .agg #[.int .i64 P, .slice A n c], .slice D r d] w fun e w' => e = .returned (.bool false) ∧ Below w.heap.size w w' := by
  have t7 : (P != P) = false := by simp
  have t6 : ((n : Int) != (n : Int)) = false := by simp
  have hB0 : Below w.heap.size w ((w.alloc (.cells #[.int .i64 P, .slice A n c] 26)).alloc (.cells #[.int .i64 P, .slice A n c] 26)) := ((Below.refl _ _).alloc (Nat.le_refl _) _).alloc (by simp) _
  have k0 : Blk ((w.alloc (.cells #[.int .i64 P, .slice A n c] 26)).alloc (.cells #[.int .i64 P, .slice A n c] 26)) w.heap.size 26 #[.int .i64 P, .slice A n c] := (Blk.new _ _ _).alloc _
  have k1 : Blk ((w.alloc (.cells #[.int .i64 P, .slice A n c] 26)).alloc (.cells #[.int .i64 P, .slice A n c] 26)) (w.heap.size + 1) 26 #[.int .i64 P, .slice A n c] := Blk.newAt3 (by simp)
  have HIM := Lib.hid fun w' (h : Below w.heap.size w w') => isMatrix_any P D r d M m w' hp0 hp1 hr0 hr hm1 hm (hd.below h) hM
  rw [hb] at HIM
  obtain ⟨g, o, rfl, hx0, A0, c0, hc0, -, -⟩ := (hd.below hB0).at_ hr0
  rw [hM M[0] (List.getElem_mem hx0), Nat.add_zero] at hc0
  clear hM hd hb
  obtain ⟨q0, q1⟩ := k0.two
  obtain ⟨q2, q3⟩ := k1.two
  go_enter Tryz.func147, Tryz.ntmps147
  go_wp2
  refine wp_obs 42 [[], [0], [], [2], [0, 1, 2, 3], [0, 1, 2, 3, 4], [0, 1, 2, 3, 4, 5], [0, 1, 2, 3, 4, 5, 6], [0, 1, 2, 3, 4, 5], [0, 1, 2, 3, 4, 5, 8], [0, 1, 2, 3, 4, 5, 6, 7, 8, 9], [0, 1, 2, 3, 4, 5, 6, 7, 8, 9, 10], [0, 1, 2, 3, 4, 5, 6, 7, 8, 9, 10, 11], [0, 1, 2, 3, 4, 5, 6, 7, 8, 9, 10, 11, 12], [0, 1, 2, 3, 4, 5, 6, 7, 8, 9, 10, 11, 12, 13], [0, 1, 2, 3, 4, 5, 6, 7, 8, 9, 10, 11, 12], [0, 1, 2, 3, 4, 5, 6, 7, 8, 9, 10, 11, 12, 13, 14, 15], [0, 1, 2, 3, 4, 5, 6, 7, 8, 9, 10, 11, 12, 13, 14, 15, 16], [0, 1, 2, 3, 4, 5, 6, 7, 8, 9, 10, 11, 12, 13, 14, 15, 16, 17], [0, 1, 2, 3, 4, 5, 6, 7, 8, 9, 10, 11, 12, 13, 14, 15, 16, 17, 18], [0, 1, 2, 3, 4, 5, 6, 7, 8, 9, 10, 11, 12, 13, 14, 15, 16, 17, 18, 19], [0, 1, 2, 3, 4, 5, 6, 7, 8, 9, 10, 11, 12, 13, 14, 15, 16, 17, 18, 19, 20], [0, 1, 2, 3, 4, 5, 6, 7, 8, 9, 10, 11, 12, 13, 14, 15, 16, 17, 18, 19], [0, 1, 2, 3, 4, 5, 6, 7, 8, 9, 10, 11, 12, 13, 14, 15, 16, 17, 18, 19, 22], [0, 1, 2, 3, 4, 5, 6, 7, 8, 9, 10, 11, 12, 13, 14, 15, 16, 17, 18, 19, 20, 21, 22, 23], [0, 1, 2, 3, 4, 5, 6, 7, 8, 9, 10, 11, 12, 13, 14, 15, 16, 17, 18, 19, 20, 21, 22, 23, 24], [0, 1, 2, 3, 4, 5, 6, 7, 8, 9, 10, 11, 12, 13, 14, 15, 16, 17, 18, 19, 20, 21, 22, 23, 24, 25], [0, 1, 2, 3, 4, 5, 6, 7, 8, 9, 10, 11, 12, 13, 14, 15, 16, 17, 18, 19, 20, 21, 22, 23, 24, 25, 26], [0, 1, 2, 3, 4, 5, 6, 7, 8, 9, 10, 11, 12, 13, 14, 15, 16, 17, 18, 19, 20, 21, 22, 23, 24, 25, 26, 27], [0, 1, 2, 3, 4, 5, 6, 7, 8, 9, 10, 11, 12, 13, 14, 15, 16, 17, 18, 19, 20, 21, 22, 23, 24, 25, 26, 27, 28], [0, 1, 2, 3, 4, 5, 6, 7, 8, 9, 10, 11, 12, 13, 14, 15, 16, 17, 18, 19, 20, 21, 22, 23, 24, 25, 26, 27, 28, 29], [0, 1, 2, 3, 4, 5, 6, 7, 8, 9, 10, 11, 12, 13, 14, 15, 16, 17, 18, 19, 20, 21, 22, 23, 24, 25, 26], [0, 1, 2, 3, 4, 5, 6, 7, 8, 9, 10, 11, 12, 13, 14, 15, 16, 17, 18, 19, 20, 21, 22, 23, 24, 25, 26, 31], [0, 1, 2, 3, 4, 5, 6, 7, 8, 9, 10, 11, 12, 13, 14, 15, 16, 17, 18, 19, 20, 21, 22, 23, 24, 25, 26, 27, 28, 29, 30, 31, 32], [0, 1, 2, 3, 4, 5, 6, 7, 8, 9, 10, 11, 12, 13, 14, 15, 16, 17, 18, 19, 20, 21, 22, 23, 24, 25, 26, 27, 28, 29, 30, 31, 32, 33], [0, 1, 2, 3, 4, 5, 6, 7, 8, 9, 10, 11, 12, 13, 14, 15, 16, 17, 18, 19, 20, 21, 22, 23, 24, 25, 26, 27, 28, 29, 30, 31, 32, 33, 34], [0, 1, 2, 3, 4, 5, 6, 7, 8, 9, 10, 11, 12, 13, 14, 15, 16, 17, 18, 19, 20, 21, 22, 23, 24, 25, 26, 27, 28, 29, 30, 31, 32, 33, 34, 35], [0, 1, 2, 3, 4, 5, 6, 7, 8, 9, 10, 11, 12, 13, 14, 15, 16, 17, 18, 19, 20, 21, 22, 23, 24, 25, 26, 27, 28, 29, 30, 31, 32, 33, 34, 35, 36], [0, 1, 2, 3, 4, 5, 6, 7, 8, 9, 10, 11, 12, 13, 14, 15, 16, 17, 18, 19, 20, 21, 22, 23, 24, 25, 26, 27, 28, 29, 30, 31, 32, 33, 34, 35], [0, 1, 2, 3, 4, 5, 6, 7, 8, 9, 10, 11, 12, 13, 14, 15, 16, 17, 18, 19, 20, 21, 22, 23, 24, 25, 26, 27, 28, 29, 30, 31, 32, 33, 34, 35, 36, 37, 38], [0, 1, 2, 3, 4, 5, 6, 7, 8, 9, 10, 11, 12, 13, 14, 15, 16, 17, 18, 19, 20, 21, 22, 23, 24, 25, 26, 27, 28, 29, 30, 31, 32, 33, 34, 35, 36, 37, 38, 39], [0, 1, 2, 3, 4, 5, 6, 7, 8, 9, 10, 11, 12, 13, 14, 15, 16, 17, 18, 19, 20, 21, 22, 23, 24, 25, 26, 27, 28, 29, 30, 31, 32, 33, 34, 35, 36, 37, 38, 39, 40]] [VIs (.pointer (some ⟨w.heap.size, 0, none⟩)), VIs (.int .i64 (P)), VIs (.pointer (some ⟨w.heap.size + 1, 0, none⟩)), VIs (.int .i64 (P)), VIs (.bool false), VIs (.bool false), VIs (.agg #[.int .i64 P, .slice A n c]), VIs (.int .i64 (n)), VIs (.agg #[.int .i64 P, .slice A n c]), VIs (.int .i64 (n)), VIs (.bool false), VIs (.bool false), VIs (.bool false), VIs (.agg #[.int .i64 P, .slice A n c]), VIs (.int .i64 (P)), VIs (.slice (some ⟨g, o, none⟩) r d), VIs (.bool false), VIs (.bool true), VIs (.bool true), VIs (.bool true), VIs undef, VIs undef, VIs undef, VIs undef, VIs undef, VIs (.bool true), VIs (.bool true), VIs undef, VIs undef, VIs undef, VIs undef, VIs undef, VIs undef, VIs undef, VIs (.bool true), VIs (.bool true), VIs undef, VIs undef, VIs undef, VIs undef, VIs undef, VIs (.bool true)] (fun w' => w'.cell? ⟨g, o, none⟩ = some (.slice A0 m c0) ∧ Blk w' w.heap.size 26 #[.int .i64 P, .slice A n c] ∧ Blk w' (w.heap.size + 1) 26 #[.int .i64 P, .slice A n c] ∧ Below w.heap.size w w') (by kernel_rfl) (by kernel_rfl) (fun _ _ h hb => ⟨(hb.cell (World.block_lt_of_cell? _ _ h.1)).trans h.1, h.2.1.below hb h.2.1.lt, h.2.2.1.below hb h.2.2.1.lt, h.2.2.2.trans (hb.mono h.2.2.2.size)⟩) (⟨hc0, k0.drew, k1.drew, hB0.drew⟩) (fun x => ?_)
  refine obs_step (Eq.trans (by simp only [zA, zC]; exact rfl) rfl) rfl (fun w' hS hV K hK => ?_) ?_
  · have q9 := hS.1; obtain ⟨q0, q1⟩ := hS.2.1.two; obtain ⟨q2, q3⟩ := hS.2.2.1.two
    go_simp
    exact hK.out _ _ _ rfl rfl rfl (Below.refl _ _)
  simp only [zD, zE, zF]
  refine obs_step (Eq.trans (by simp only [zA, zB, zC]; exact rfl) rfl) rfl (fun w' hS hV K hK => ?_) ?_
  · have e0 : x 0 = (.pointer (some ⟨w.heap.size, 0, none⟩)) := hV 0 (by decide)
    have q9 := hS.1; obtain ⟨q0, q1⟩ := hS.2.1.two; obtain ⟨q2, q3⟩ := hS.2.2.1.two
    go_simp
    exact hK.out _ _ _ rfl rfl rfl (Below.refl _ _)
  simp only [zD, zE, zF]
  refine obs_step (Eq.trans (by simp only [zA, zB, zC]; exact rfl) rfl) rfl (fun w' hS hV K hK => ?_) ?_
  · have q9 := hS.1; obtain ⟨q0, q1⟩ := hS.2.1.two; obtain ⟨q2, q3⟩ := hS.2.2.1.two
    go_simp
    exact hK.out _ _ _ rfl rfl rfl (Below.refl _ _)
  simp only [zD, zE, zF]
  refine obs_step (Eq.trans (by simp only [zA, zB, zC]; exact rfl) rfl) rfl (fun w' hS hV K hK => ?_) ?_
  · have e2 : x 2 = (.pointer (some ⟨w.heap.size + 1, 0, none⟩)) := hV 2 (by decide)
    have q9 := hS.1; obtain ⟨q0, q1⟩ := hS.2.1.two; obtain ⟨q2, q3⟩ := hS.2.2.1.two
    go_simp
    exact hK.out _ _ _ rfl rfl rfl (Below.refl _ _)
  simp only [zD, zE, zF]
  refine obs_step (Eq.trans (by simp only [zA, zB, zC]; exact rfl) rfl) rfl (fun w' hS hV K hK => ?_) ?_
  · have e1 : x 1 = (.int .i64 (P)) := hV 1 (by decide)
    have e3 : x 3 = (.int .i64 (P)) := hV 3 (by decide)
    have q9 := hS.1; obtain ⟨q0, q1⟩ := hS.2.1.two; obtain ⟨q2, q3⟩ := hS.2.2.1.two
    go_simp
    exact hK.out _ _ _ rfl rfl rfl (Below.refl _ _)
  simp only [zD, zE, zF]
  refine obs_step (Eq.trans (by simp only [zA, zB, zC]; exact rfl) rfl) rfl (fun w' hS hV K hK => ?_) ?_
  · have e4 : x 4 = (.bool false) := hV 4 (by decide)
    have q9 := hS.1; obtain ⟨q0, q1⟩ := hS.2.1.two; obtain ⟨q2, q3⟩ := hS.2.2.1.two
    go_simp
    exact hK.out _ _ _ rfl rfl rfl (Below.refl _ _)
  simp only [zD, zE, zF]
  refine obs_step (Eq.trans (by simp only [zA, zB, zC]; exact rfl) rfl) rfl (fun w' hS hV K hK => ?_) ?_
  · have e5 : x 5 = (.bool false) := hV 5 (by decide)
    have q9 := hS.1; obtain ⟨q0, q1⟩ := hS.2.1.two; obtain ⟨q2, q3⟩ := hS.2.2.1.two
    go_simp
    exact hK.out _ _ _ rfl rfl rfl (Below.refl _ _)
  simp only [zD, zE, zF]
  refine obs_step (Eq.trans (by simp only [zA, zB, zC]; exact rfl) rfl) rfl (fun w' hS hV K hK => ?_) ?_
  · have e5 : x 5 = (.bool false) := hV 5 (by decide)
    have e6 : x 6 = (.agg #[.int .i64 P, .slice A n c]) := hV 6 (by decide)
    have q9 := hS.1; obtain ⟨q0, q1⟩ := hS.2.1.two; obtain ⟨q2, q3⟩ := hS.2.2.1.two
    go_simp
    refine (dim_any _ _ _ _ _).mono ?_
    rintro e v1 ⟨rfl, hb⟩
    exact hK.out _ _ _ rfl rfl rfl hb
  simp only [zD, zE, zF]
  refine obs_step (Eq.trans (by simp only [zA, zB, zC]; exact rfl) rfl) rfl (fun w' hS hV K hK => ?_) ?_
  · have e5 : x 5 = (.bool false) := hV 5 (by decide)
    have q9 := hS.1; obtain ⟨q0, q1⟩ := hS.2.1.two; obtain ⟨q2, q3⟩ := hS.2.2.1.two
    go_simp
    exact hK.out _ _ _ rfl rfl rfl (Below.refl _ _)
  simp only [zD, zE, zF]
  refine obs_step (Eq.trans (by simp only [zA, zB, zC]; exact rfl) rfl) rfl (fun w' hS hV K hK => ?_) ?_
  · have e5 : x 5 = (.bool false) := hV 5 (by decide)
    have e8 : x 8 = (.agg #[.int .i64 P, .slice A n c]) := hV 8 (by decide)
    have q9 := hS.1; obtain ⟨q0, q1⟩ := hS.2.1.two; obtain ⟨q2, q3⟩ := hS.2.2.1.two
    go_simp
    refine (dim_any _ _ _ _ _).mono ?_
    rintro e v1 ⟨rfl, hb⟩
    exact hK.out _ _ _ rfl rfl rfl hb
  simp only [zD, zE, zF]
  refine obs_step (Eq.trans (by simp only [zA, zB, zC]; exact rfl) rfl) rfl (fun w' hS hV K hK => ?_) ?_
  · have e5 : x 5 = (.bool false) := hV 5 (by decide)
    have e7 : x 7 = (.int .i64 (n)) := hV 7 (by decide)
    have e9 : x 9 = (.int .i64 (n)) := hV 9 (by decide)
    have q9 := hS.1; obtain ⟨q0, q1⟩ := hS.2.1.two; obtain ⟨q2, q3⟩ := hS.2.2.1.two
    go_simp
    exact hK.out _ _ _ rfl rfl rfl (Below.refl _ _)
  simp only [zD, zE, zF]
  refine obs_step (Eq.trans (by simp only [zA, zB, zC]; exact rfl) rfl) rfl (fun w' hS hV K hK => ?_) ?_
  · have e5 : x 5 = (.bool false) := hV 5 (by decide)
    have e10 : x 10 = (.bool false) := hV 10 (by decide)
    have q9 := hS.1; obtain ⟨q0, q1⟩ := hS.2.1.two; obtain ⟨q2, q3⟩ := hS.2.2.1.two
    go_simp
    exact hK.out _ _ _ rfl rfl rfl (Below.refl _ _)
  simp only [zD, zE, zF]
  refine obs_step (Eq.trans (by simp only [zA, zB, zC]; exact rfl) rfl) rfl (fun w' hS hV K hK => ?_) ?_
  · have e11 : x 11 = (.bool false) := hV 11 (by decide)
    have q9 := hS.1; obtain ⟨q0, q1⟩ := hS.2.1.two; obtain ⟨q2, q3⟩ := hS.2.2.1.two
    go_simp
    exact hK.out _ _ _ rfl rfl rfl (Below.refl _ _)
  simp only [zD, zE, zF]
  refine obs_step (Eq.trans (by simp only [zA, zB, zC]; exact rfl) rfl) rfl (fun w' hS hV K hK => ?_) ?_
  · have e12 : x 12 = (.bool false) := hV 12 (by decide)
    have q9 := hS.1; obtain ⟨q0, q1⟩ := hS.2.1.two; obtain ⟨q2, q3⟩ := hS.2.2.1.two
    go_simp
    exact hK.out _ _ _ rfl rfl rfl (Below.refl _ _)
  simp only [zD, zE, zF]
  refine obs_step (Eq.trans (by simp only [zA, zB, zC]; exact rfl) rfl) rfl (fun w' hS hV K hK => ?_) ?_
  · have e12 : x 12 = (.bool false) := hV 12 (by decide)
    have e13 : x 13 = (.agg #[.int .i64 P, .slice A n c]) := hV 13 (by decide)
    have q9 := hS.1; obtain ⟨q0, q1⟩ := hS.2.1.two; obtain ⟨q2, q3⟩ := hS.2.2.1.two
    go_simp
    refine (field_any _ _ _ _ _).mono ?_
    rintro e v1 ⟨rfl, hb⟩
    exact hK.out _ _ _ rfl rfl rfl hb
  simp only [zD, zE, zF]
  refine obs_step (Eq.trans (by simp only [zA, zB, zC]; exact rfl) rfl) rfl (fun w' hS hV K hK => ?_) ?_
  · have e12 : x 12 = (.bool false) := hV 12 (by decide)
    have q9 := hS.1; obtain ⟨q0, q1⟩ := hS.2.1.two; obtain ⟨q2, q3⟩ := hS.2.2.1.two
    go_simp
    exact hK.out _ _ _ rfl rfl rfl (Below.refl _ _)
  simp only [zD, zE, zF]
  refine obs_step (Eq.trans (by simp only [zA, zB, zC]; exact rfl) rfl) rfl (fun w' hS hV K hK => ?_) ?_
  · have e12 : x 12 = (.bool false) := hV 12 (by decide)
    have e14 : x 14 = (.int .i64 (P)) := hV 14 (by decide)
    have e15 : x 15 = (.slice (some ⟨g, o, none⟩) r d) := hV 15 (by decide)
    have q9 := hS.1; obtain ⟨q0, q1⟩ := hS.2.1.two; obtain ⟨q2, q3⟩ := hS.2.2.1.two
    go_simp
    refine (HIM.out _ hS.2.2.2).mono ?_
    rintro e v1 ⟨rfl, rfl⟩
    exact hK.out _ _ _ rfl rfl rfl (Below.refl _ _)
  simp only [zD, zE, zF]
  refine obs_step (Eq.trans (by simp only [zA, zB, zC]; exact rfl) rfl) rfl (fun w' hS hV K hK => ?_) ?_
  · have e12 : x 12 = (.bool false) := hV 12 (by decide)
    have e16 : x 16 = (.bool false) := hV 16 (by decide)
    have q9 := hS.1; obtain ⟨q0, q1⟩ := hS.2.1.two; obtain ⟨q2, q3⟩ := hS.2.2.1.two
    go_simp
    exact hK.out _ _ _ rfl rfl rfl (Below.refl _ _)
  simp only [zD, zE, zF]
  refine obs_step (Eq.trans (by simp only [zA, zB, zC]; exact rfl) rfl) rfl (fun w' hS hV K hK => ?_) ?_
  · have e12 : x 12 = (.bool false) := hV 12 (by decide)
    have e17 : x 17 = (.bool true) := hV 17 (by decide)
    have q9 := hS.1; obtain ⟨q0, q1⟩ := hS.2.1.two; obtain ⟨q2, q3⟩ := hS.2.2.1.two
    go_simp
    exact hK.out _ _ _ rfl rfl rfl (Below.refl _ _)
  simp only [zD, zE, zF]
  refine obs_step (Eq.trans (by simp only [zA, zB, zC]; exact rfl) rfl) rfl (fun w' hS hV K hK => ?_) ?_
  · have e18 : x 18 = (.bool true) := hV 18 (by decide)
    have q9 := hS.1; obtain ⟨q0, q1⟩ := hS.2.1.two; obtain ⟨q2, q3⟩ := hS.2.2.1.two
    go_simp
    exact hK.out _ _ _ rfl rfl rfl (Below.refl _ _)
  simp only [zD, zE, zF]
  refine obs_step (Eq.trans (by simp only [zA, zB, zC]; exact rfl) rfl) rfl (fun w' hS hV K hK => ?_) ?_
  · have e19 : x 19 = (.bool true) := hV 19 (by decide)
    have q9 := hS.1; obtain ⟨q0, q1⟩ := hS.2.1.two; obtain ⟨q2, q3⟩ := hS.2.2.1.two
    go_simp
    exact hK.out _ _ _ rfl rfl rfl (Below.refl _ _)
  simp only [zD, zE, zF]
  refine obs_step (Eq.trans (by simp only [zA, zB, zC]; exact rfl) rfl) rfl (fun w' hS hV K hK => ?_) ?_
  · have e19 : x 19 = (.bool true) := hV 19 (by decide)
    have e20 : x 20 = undef := hV 20 (by decide)
    have q9 := hS.1; obtain ⟨q0, q1⟩ := hS.2.1.two; obtain ⟨q2, q3⟩ := hS.2.2.1.two
    go_simp
    exact hK.out _ _ _ rfl rfl rfl (Below.refl _ _)
  simp only [zD, zE, zF]
  refine obs_step (Eq.trans (by simp only [zA, zB, zC]; exact rfl) rfl) rfl (fun w' hS hV K hK => ?_) ?_
  · have e19 : x 19 = (.bool true) := hV 19 (by decide)
    have q9 := hS.1; obtain ⟨q0, q1⟩ := hS.2.1.two; obtain ⟨q2, q3⟩ := hS.2.2.1.two
    go_simp
    exact hK.out _ _ _ rfl rfl rfl (Below.refl _ _)
  simp only [zD, zE, zF]
  refine obs_step (Eq.trans (by simp only [zA, zB, zC]; exact rfl) rfl) rfl (fun w' hS hV K hK => ?_) ?_
  · have e19 : x 19 = (.bool true) := hV 19 (by decide)
    have e22 : x 22 = undef := hV 22 (by decide)
    have q9 := hS.1; obtain ⟨q0, q1⟩ := hS.2.1.two; obtain ⟨q2, q3⟩ := hS.2.2.1.two
    go_simp
    exact hK.out _ _ _ rfl rfl rfl (Below.refl _ _)
  simp only [zD, zE, zF]
  refine obs_step (Eq.trans (by simp only [zA, zB, zC]; exact rfl) rfl) rfl (fun w' hS hV K hK => ?_) ?_
  · have e19 : x 19 = (.bool true) := hV 19 (by decide)
    have e21 : x 21 = undef := hV 21 (by decide)
    have e23 : x 23 = undef := hV 23 (by decide)
    have q9 := hS.1; obtain ⟨q0, q1⟩ := hS.2.1.two; obtain ⟨q2, q3⟩ := hS.2.2.1.two
    go_simp
    exact hK.out _ _ _ rfl rfl rfl (Below.refl _ _)
  simp only [zD, zE, zF]
  refine obs_step (Eq.trans (by simp only [zA, zB, zC]; exact rfl) rfl) rfl (fun w' hS hV K hK => ?_) ?_
  · have e19 : x 19 = (.bool true) := hV 19 (by decide)
    have e24 : x 24 = undef := hV 24 (by decide)
    have q9 := hS.1; obtain ⟨q0, q1⟩ := hS.2.1.two; obtain ⟨q2, q3⟩ := hS.2.2.1.two
    go_simp
    exact hK.out _ _ _ rfl rfl rfl (Below.refl _ _)
  simp only [zD, zE, zF]
  refine obs_step (Eq.trans (by simp only [zA, zB, zC]; exact rfl) rfl) rfl (fun w' hS hV K hK => ?_) ?_
  · have e25 : x 25 = (.bool true) := hV 25 (by decide)
    have q9 := hS.1; obtain ⟨q0, q1⟩ := hS.2.1.two; obtain ⟨q2, q3⟩ := hS.2.2.1.two
    go_simp
    exact hK.out _ _ _ rfl rfl rfl (Below.refl _ _)
  simp only [zD, zE, zF]
  refine obs_step (Eq.trans (by simp only [zA, zB, zC]; exact rfl) rfl) rfl (fun w' hS hV K hK => ?_) ?_
  · have e26 : x 26 = (.bool true) := hV 26 (by decide)
    have q9 := hS.1; obtain ⟨q0, q1⟩ := hS.2.1.two; obtain ⟨q2, q3⟩ := hS.2.2.1.two
    go_simp
    exact hK.out _ _ _ rfl rfl rfl (Below.refl _ _)
  simp only [zD, zE, zF]
  refine obs_step (Eq.trans (by simp only [zA, zB, zC]; exact rfl) rfl) rfl (fun w' hS hV K hK => ?_) ?_
  · have e26 : x 26 = (.bool true) := hV 26 (by decide)
    have e27 : x 27 = undef := hV 27 (by decide)
    have q9 := hS.1; obtain ⟨q0, q1⟩ := hS.2.1.two; obtain ⟨q2, q3⟩ := hS.2.2.1.two
    go_simp
    exact hK.out _ _ _ rfl rfl rfl (Below.refl _ _)
  simp only [zD, zE, zF]
  refine obs_step (Eq.trans (by simp only [zA, zB, zC]; exact rfl) rfl) rfl (fun w' hS hV K hK => ?_) ?_
  · have e26 : x 26 = (.bool true) := hV 26 (by decide)
    have e28 : x 28 = undef := hV 28 (by decide)
    have q9 := hS.1; obtain ⟨q0, q1⟩ := hS.2.1.two; obtain ⟨q2, q3⟩ := hS.2.2.1.two
    go_simp
    exact hK.out _ _ _ rfl rfl rfl (Below.refl _ _)
  simp only [zD, zE, zF]
  refine obs_step (Eq.trans (by simp only [zA, zB, zC]; exact rfl) rfl) rfl (fun w' hS hV K hK => ?_) ?_
  · have e26 : x 26 = (.bool true) := hV 26 (by decide)
    have e29 : x 29 = undef := hV 29 (by decide)
    have q9 := hS.1; obtain ⟨q0, q1⟩ := hS.2.1.two; obtain ⟨q2, q3⟩ := hS.2.2.1.two
    go_simp
    exact hK.out _ _ _ rfl rfl rfl (Below.refl _ _)
  simp only [zD, zE, zF]
  refine obs_step (Eq.trans (by simp only [zA, zB, zC]; exact rfl) rfl) rfl (fun w' hS hV K hK => ?_) ?_
  · have e26 : x 26 = (.bool true) := hV 26 (by decide)
    have q9 := hS.1; obtain ⟨q0, q1⟩ := hS.2.1.two; obtain ⟨q2, q3⟩ := hS.2.2.1.two
    go_simp
    exact hK.out _ _ _ rfl rfl rfl (Below.refl _ _)
  simp only [zD, zE, zF]
  refine obs_step (Eq.trans (by simp only [zA, zB, zC]; exact rfl) rfl) rfl (fun w' hS hV K hK => ?_) ?_
  · have e26 : x 26 = (.bool true) := hV 26 (by decide)
    have e31 : x 31 = undef := hV 31 (by decide)
    have q9 := hS.1; obtain ⟨q0, q1⟩ := hS.2.1.two; obtain ⟨q2, q3⟩ := hS.2.2.1.two
    go_simp
    exact hK.out _ _ _ rfl rfl rfl (Below.refl _ _)
  simp only [zD, zE, zF]
  refine obs_step (Eq.trans (by simp only [zA, zB, zC]; exact rfl) rfl) rfl (fun w' hS hV K hK => ?_) ?_
  · have e26 : x 26 = (.bool true) := hV 26 (by decide)
    have e30 : x 30 = undef := hV 30 (by decide)
    have e32 : x 32 = undef := hV 32 (by decide)
    have q9 := hS.1; obtain ⟨q0, q1⟩ := hS.2.1.two; obtain ⟨q2, q3⟩ := hS.2.2.1.two
    go_simp
    exact hK.out _ _ _ rfl rfl rfl (Below.refl _ _)
  simp only [zD, zE, zF]
  refine obs_step (Eq.trans (by simp only [zA, zB, zC]; exact rfl) rfl) rfl (fun w' hS hV K hK => ?_) ?_
  · have e26 : x 26 = (.bool true) := hV 26 (by decide)
    have e33 : x 33 = undef := hV 33 (by decide)
    have q9 := hS.1; obtain ⟨q0, q1⟩ := hS.2.1.two; obtain ⟨q2, q3⟩ := hS.2.2.1.two
    go_simp
    exact hK.out _ _ _ rfl rfl rfl (Below.refl _ _)
  simp only [zD, zE, zF]
  refine obs_step (Eq.trans (by simp only [zA, zB, zC]; exact rfl) rfl) rfl (fun w' hS hV K hK => ?_) ?_
  · have e34 : x 34 = (.bool true) := hV 34 (by decide)
    have q9 := hS.1; obtain ⟨q0, q1⟩ := hS.2.1.two; obtain ⟨q2, q3⟩ := hS.2.2.1.two
    go_simp
    exact hK.out _ _ _ rfl rfl rfl (Below.refl _ _)
  simp only [zD, zE, zF]
  refine obs_step (Eq.trans (by simp only [zA, zB, zC]; exact rfl) rfl) rfl (fun w' hS hV K hK => ?_) ?_
  · have e35 : x 35 = (.bool true) := hV 35 (by decide)
    have q9 := hS.1; obtain ⟨q0, q1⟩ := hS.2.1.two; obtain ⟨q2, q3⟩ := hS.2.2.1.two
    go_simp
    exact hK.out _ _ _ rfl rfl rfl (Below.refl _ _)
  simp only [zD, zE, zF]
  refine obs_step (Eq.trans (by simp only [zA, zB, zC]; exact rfl) rfl) rfl (fun w' hS hV K hK => ?_) ?_
  · have e35 : x 35 = (.bool true) := hV 35 (by decide)
    have e36 : x 36 = undef := hV 36 (by decide)
    have q9 := hS.1; obtain ⟨q0, q1⟩ := hS.2.1.two; obtain ⟨q2, q3⟩ := hS.2.2.1.two
    go_simp
    exact hK.out _ _ _ rfl rfl rfl (Below.refl _ _)
  simp only [zD, zE, zF]
  refine obs_step (Eq.trans (by simp only [zA, zB, zC]; exact rfl) rfl) rfl (fun w' hS hV K hK => ?_) ?_
  · have e35 : x 35 = (.bool true) := hV 35 (by decide)
    have q9 := hS.1; obtain ⟨q0, q1⟩ := hS.2.1.two; obtain ⟨q2, q3⟩ := hS.2.2.1.two
    go_simp
    exact hK.out _ _ _ rfl rfl rfl (Below.refl _ _)
  simp only [zD, zE, zF]
  refine obs_step (Eq.trans (by simp only [zA, zB, zC]; exact rfl) rfl) rfl (fun w' hS hV K hK => ?_) ?_
  · have e35 : x 35 = (.bool true) := hV 35 (by decide)
    have e37 : x 37 = undef := hV 37 (by decide)
    have e38 : x 38 = undef := hV 38 (by decide)
    have q9 := hS.1; obtain ⟨q0, q1⟩ := hS.2.1.two; obtain ⟨q2, q3⟩ := hS.2.2.1.two
    go_simp
    exact hK.out _ _ _ rfl rfl rfl (Below.refl _ _)
  simp only [zD, zE, zF]
  refine obs_step (Eq.trans (by simp only [zA, zB, zC]; exact rfl) rfl) rfl (fun w' hS hV K hK => ?_) ?_
  · have e35 : x 35 = (.bool true) := hV 35 (by decide)
    have e39 : x 39 = undef := hV 39 (by decide)
    have q9 := hS.1; obtain ⟨q0, q1⟩ := hS.2.1.two; obtain ⟨q2, q3⟩ := hS.2.2.1.two
    go_simp
    exact hK.out _ _ _ rfl rfl rfl (Below.refl _ _)
  simp only [zD, zE, zF]
  refine obs_step (Eq.trans (by simp only [zA, zB, zC]; exact rfl) rfl) rfl (fun w' hS hV K hK => ?_) ?_
  · have e35 : x 35 = (.bool true) := hV 35 (by decide)
    have e40 : x 40 = undef := hV 40 (by decide)
    have q9 := hS.1; obtain ⟨q0, q1⟩ := hS.2.1.two; obtain ⟨q2, q3⟩ := hS.2.2.1.two
    go_simp
    exact hK.out _ _ _ rfl rfl rfl (Below.refl _ _)
  simp only [zD, zE, zF]
  refine fun w' hS hV => ?_
  have e0 : x 0 = (.pointer (some ⟨w.heap.size, 0, none⟩)) := hV 0 (by decide)
  have e1 : x 1 = (.int .i64 (P)) := hV 1 (by decide)
  have e2 : x 2 = (.pointer (some ⟨w.heap.size + 1, 0, none⟩)) := hV 2 (by decide)
  have e3 : x 3 = (.int .i64 (P)) := hV 3 (by decide)
  have e4 : x 4 = (.bool false) := hV 4 (by decide)
  have e5 : x 5 = (.bool false) := hV 5 (by decide)
  have e6 : x 6 = (.agg #[.int .i64 P, .slice A n c]) := hV 6 (by decide)
  have e7 : x 7 = (.int .i64 (n)) := hV 7 (by decide)
  have e8 : x 8 = (.agg #[.int .i64 P, .slice A n c]) := hV 8 (by decide)
  have e9 : x 9 = (.int .i64 (n)) := hV 9 (by decide)
  have e10 : x 10 = (.bool false) := hV 10 (by decide)
  have e11 : x 11 = (.bool false) := hV 11 (by decide)
  have e12 : x 12 = (.bool false) := hV 12 (by decide)
  have e13 : x 13 = (.agg #[.int .i64 P, .slice A n c]) := hV 13 (by decide)
  have e14 : x 14 = (.int .i64 (P)) := hV 14 (by decide)
  have e15 : x 15 = (.slice (some ⟨g, o, none⟩) r d) := hV 15 (by decide)
  have e16 : x 16 = (.bool false) := hV 16 (by decide)
  have e17 : x 17 = (.bool true) := hV 17 (by decide)
  have e18 : x 18 = (.bool true) := hV 18 (by decide)
  have e19 : x 19 = (.bool true) := hV 19 (by decide)
  have e20 : x 20 = undef := hV 20 (by decide)
  have e21 : x 21 = undef := hV 21 (by decide)
  have e22 : x 22 = undef := hV 22 (by decide)
  have e23 : x 23 = undef := hV 23 (by decide)
  have e24 : x 24 = undef := hV 24 (by decide)
  have e25 : x 25 = (.bool true) := hV 25 (by decide)
  have e26 : x 26 = (.bool true) := hV 26 (by decide)
  have e27 : x 27 = undef := hV 27 (by decide)
  have e28 : x 28 = undef := hV 28 (by decide)
  have e29 : x 29 = undef := hV 29 (by decide)
  have e30 : x 30 = undef := hV 30 (by decide)
  have e31 : x 31 = undef := hV 31 (by decide)
  have e32 : x 32 = undef := hV 32 (by decide)
  have e33 : x 33 = undef := hV 33 (by decide)
  have e34 : x 34 = (.bool true) := hV 34 (by decide)
  have e35 : x 35 = (.bool true) := hV 35 (by decide)
  have e36 : x 36 = undef := hV 36 (by decide)
  have e37 : x 37 = undef := hV 37 (by decide)
  have e38 : x 38 = undef := hV 38 (by decide)
  have e39 : x 39 = undef := hV 39 (by decide)
  have e40 : x 40 = undef := hV 40 (by decide)
  have e41 : x 41 = (.bool true) := hV 41 (by decide)
  simp only [e0, e1, e2, e3, e4, e5, e6, e7, e8, e9, e10, e11, e12, e13, e14, e15, e16, e17, e18, e19, e20, e21, e22, e23, e24, e25, e26, e27, e28, e29, e30, e31, e32, e33, e34, e35, e36, e37, e38, e39, e40, e41]
  clear e0 e1 e2 e3 e4 e5 e6 e7 e8 e9 e10 e11 e12 e13 e14 e15 e16 e17 e18 e19 e20 e21 e22 e23 e24 e25 e26 e27 e28 e29 e30 e31 e32 e33 e34 e35 e36 e37 e38 e39 e40 e41
  refine wpAny_done (by kernel_rfl) ?_ _
  have hb9 := hS.2.2.2
  go_wp2
  go_ret
  exact ⟨rfl, hb9⟩
set_option maxHeartbeats 3200000 in
set_option maxRecDepth 8000 in
theorem isIsometry_1 (P : Int) (A : Option Addr) (n c : Nat) (sq : List Int) (D : Option Addr) (r d : Nat) (M : List (List Int)) (m : Nat) (w : World) (hp0 : 0 < P) (hp1 : P ≤ 13) (hr0 : 0 < r) (hr : r ≤ 16) (hm1 : 1 ≤ m) (hm : m ≤ 16) (hd : RdII w D r M) (hM : Rect m M) (hb : (M.all fun r => nums P r) = true) (h1 : r ≠ n) :
    Calls Tryz.prog 147 #[.agg #[.int .i64 P, .slice A n c], .agg #[.int .i64 P, .slice A n c], .slice D r d] w fun e w' => e = .returned (.bool false) ∧ Below w.heap.size w w' := by
  have t7 : (P != P) = false := by simp
  have t4 : ((r : Int) != (n : Int)) = true := by rw [bne_iff_ne]; omega
  have t6 : ((n : Int) != (n : Int)) = false := by simp
  have hB0 : Below w.heap.size w ((w.alloc (.cells #[.int .i64 P, .slice A n c] 26)).alloc (.cells #[.int .i64 P, .slice A n c] 26)) := ((Below.refl _ _).alloc (Nat.le_refl _) _).alloc (by simp) _
  have k0 : Blk ((w.alloc (.cells #[.int .i64 P, .slice A n c] 26)).alloc (.cells #[.int .i64 P, .slice A n c] 26)) w.heap.size 26 #[.int .i64 P, .slice A n c] := (Blk.new _ _ _).alloc _
  have k1 : Blk ((w.alloc (.cells #[.int .i64 P, .slice A n c] 26)).alloc (.cells #[.int .i64 P, .slice A n c] 26)) (w.heap.size + 1) 26 #[.int .i64 P, .slice A n c] := Blk.newAt3 (by simp)
  have HIM := Lib.hid fun w' (h : Below w.heap.size w w') => isMatrix_any P D r d M m w' hp0 hp1 hr0 hr hm1 hm (hd.below h) hM
  rw [hb] at HIM
  obtain ⟨g, o, rfl, hx0, A0, c0, hc0, -, -⟩ := (hd.below hB0).at_ hr0
  rw [hM M[0] (List.getElem_mem hx0), Nat.add_zero] at hc0
  clear hM hd hb
  obtain ⟨q0, q1⟩ := k0.two
  obtain ⟨q2, q3⟩ := k1.two
  go_enter Tryz.func147, Tryz.ntmps147
  go_wp2
  refine wp_obs 42 [[], [0], [], [2], [0, 1, 2, 3], [0, 1, 2, 3, 4], [0, 1, 2, 3, 4, 5], [0, 1, 2, 3, 4, 5, 6], [0, 1, 2, 3, 4, 5], [0, 1, 2, 3, 4, 5, 8], [0, 1, 2, 3, 4, 5, 6, 7, 8, 9], [0, 1, 2, 3, 4, 5, 6, 7, 8, 9, 10], [0, 1, 2, 3, 4, 5, 6, 7, 8, 9, 10, 11], [0, 1, 2, 3, 4, 5, 6, 7, 8, 9, 10, 11, 12], [0, 1, 2, 3, 4, 5, 6, 7, 8, 9, 10, 11, 12, 13], [0, 1, 2, 3, 4, 5, 6, 7, 8, 9, 10, 11, 12], [0, 1, 2, 3, 4, 5, 6, 7, 8, 9, 10, 11, 12, 13, 14, 15], [0, 1, 2, 3, 4, 5, 6, 7, 8, 9, 10, 11, 12, 13, 14, 15, 16], [0, 1, 2, 3, 4, 5, 6, 7, 8, 9, 10, 11, 12, 13, 14, 15, 16, 17], [0, 1, 2, 3, 4, 5, 6, 7, 8, 9, 10, 11, 12, 13, 14, 15, 16, 17, 18], [0, 1, 2, 3, 4, 5, 6, 7, 8, 9, 10, 11, 12, 13, 14, 15, 16, 17, 18, 19], [0, 1, 2, 3, 4, 5, 6, 7, 8, 9, 10, 11, 12, 13, 14, 15, 16, 17, 18, 19, 20], [0, 1, 2, 3, 4, 5, 6, 7, 8, 9, 10, 11, 12, 13, 14, 15, 16, 17, 18, 19], [0, 1, 2, 3, 4, 5, 6, 7, 8, 9, 10, 11, 12, 13, 14, 15, 16, 17, 18, 19, 22], [0, 1, 2, 3, 4, 5, 6, 7, 8, 9, 10, 11, 12, 13, 14, 15, 16, 17, 18, 19, 20, 21, 22, 23], [0, 1, 2, 3, 4, 5, 6, 7, 8, 9, 10, 11, 12, 13, 14, 15, 16, 17, 18, 19, 20, 21, 22, 23, 24], [0, 1, 2, 3, 4, 5, 6, 7, 8, 9, 10, 11, 12, 13, 14, 15, 16, 17, 18, 19, 20, 21, 22, 23, 24, 25], [0, 1, 2, 3, 4, 5, 6, 7, 8, 9, 10, 11, 12, 13, 14, 15, 16, 17, 18, 19, 20, 21, 22, 23, 24, 25, 26], [0, 1, 2, 3, 4, 5, 6, 7, 8, 9, 10, 11, 12, 13, 14, 15, 16, 17, 18, 19, 20, 21, 22, 23, 24, 25, 26, 27], [0, 1, 2, 3, 4, 5, 6, 7, 8, 9, 10, 11, 12, 13, 14, 15, 16, 17, 18, 19, 20, 21, 22, 23, 24, 25, 26, 27, 28], [0, 1, 2, 3, 4, 5, 6, 7, 8, 9, 10, 11, 12, 13, 14, 15, 16, 17, 18, 19, 20, 21, 22, 23, 24, 25, 26, 27, 28, 29], [0, 1, 2, 3, 4, 5, 6, 7, 8, 9, 10, 11, 12, 13, 14, 15, 16, 17, 18, 19, 20, 21, 22, 23, 24, 25, 26], [0, 1, 2, 3, 4, 5, 6, 7, 8, 9, 10, 11, 12, 13, 14, 15, 16, 17, 18, 19, 20, 21, 22, 23, 24, 25, 26, 31], [0, 1, 2, 3, 4, 5, 6, 7, 8, 9, 10, 11, 12, 13, 14, 15, 16, 17, 18, 19, 20, 21, 22, 23, 24, 25, 26, 27, 28, 29, 30, 31, 32], [0, 1, 2, 3, 4, 5, 6, 7, 8, 9, 10, 11, 12, 13, 14, 15, 16, 17, 18, 19, 20, 21, 22, 23, 24, 25, 26, 27, 28, 29, 30, 31, 32, 33], [0, 1, 2, 3, 4, 5, 6, 7, 8, 9, 10, 11, 12, 13, 14, 15, 16, 17, 18, 19, 20, 21, 22, 23, 24, 25, 26, 27, 28, 29, 30, 31, 32, 33, 34], [0, 1, 2, 3, 4, 5, 6, 7, 8, 9, 10, 11, 12, 13, 14, 15, 16, 17, 18, 19, 20, 21, 22, 23, 24, 25, 26, 27, 28, 29, 30, 31, 32, 33, 34, 35], [0, 1, 2, 3, 4, 5, 6, 7, 8, 9, 10, 11, 12, 13, 14, 15, 16, 17, 18, 19, 20, 21, 22, 23, 24, 25, 26, 27, 28, 29, 30, 31, 32, 33, 34, 35, 36], [0, 1, 2, 3, 4, 5, 6, 7, 8, 9, 10, 11, 12, 13, 14, 15, 16, 17, 18, 19, 20, 21, 22, 23, 24, 25, 26, 27, 28, 29, 30, 31, 32, 33, 34, 35], [0, 1, 2, 3, 4, 5, 6, 7, 8, 9, 10, 11, 12, 13, 14, 15, 16, 17, 18, 19, 20, 21, 22, 23, 24, 25, 26, 27, 28, 29, 30, 31, 32, 33, 34, 35, 36, 37, 38], [0, 1, 2, 3, 4, 5, 6, 7, 8, 9, 10, 11, 12, 13, 14, 15, 16, 17, 18, 19, 20, 21, 22, 23, 24, 25, 26, 27, 28, 29, 30, 31, 32, 33, 34, 35, 36, 37, 38, 39], [0, 1, 2, 3, 4, 5, 6, 7, 8, 9, 10, 11, 12, 13, 14, 15, 16, 17, 18, 19, 20, 21, 22, 23, 24, 25, 26, 27, 28, 29, 30, 31, 32, 33, 34, 35, 36, 37, 38, 39, 40]] [VIs (.pointer (some ⟨w.heap.size, 0, none⟩)), VIs (.int .i64 (P)), VIs (.pointer (some ⟨w.heap.size + 1, 0, none⟩)), VIs (.int .i64 (P)), VIs (.bool false), VIs (.bool false), VIs (.agg #[.int .i64 P, .slice A n c]), VIs (.int .i64 (n)), VIs (.agg #[.int .i64 P, .slice A n c]), VIs (.int .i64 (n)), VIs (.bool false), VIs (.bool false), VIs (.bool false), VIs (.agg #[.int .i64 P, .slice A n c]), VIs (.int .i64 (P)), VIs (.slice (some ⟨g, o, none⟩) r d), VIs (.bool true), VIs (.bool false), VIs (.bool false), VIs (.bool false), VIs (.slice (some ⟨g, o, none⟩) r d), VIs (.int .i64 (r)), VIs (.agg #[.int .i64 P, .slice A n c]), VIs (.int .i64 (n)), VIs (.bool true), VIs (.bool true), VIs (.bool true), VIs undef, VIs undef, VIs undef, VIs undef, VIs undef, VIs undef, VIs undef, VIs (.bool true), VIs (.bool true), VIs undef, VIs undef, VIs undef, VIs undef, VIs undef, VIs (.bool true)] (fun w' => w'.cell? ⟨g, o, none⟩ = some (.slice A0 m c0) ∧ Blk w' w.heap.size 26 #[.int .i64 P, .slice A n c] ∧ Blk w' (w.heap.size + 1) 26 #[.int .i64 P, .slice A n c] ∧ Below w.heap.size w w') (by kernel_rfl) (by kernel_rfl) (fun _ _ h hb => ⟨(hb.cell (World.block_lt_of_cell? _ _ h.1)).trans h.1, h.2.1.below hb h.2.1.lt, h.2.2.1.below hb h.2.2.1.lt, h.2.2.2.trans (hb.mono h.2.2.2.size)⟩) (⟨hc0, k0.drew, k1.drew, hB0.drew⟩) (fun x => ?_)
  refine obs_step (Eq.trans (by simp only [zA, zC]; exact rfl) rfl) rfl (fun w' hS hV K hK => ?_) ?_
  · have q9 := hS.1; obtain ⟨q0, q1⟩ := hS.2.1.two; obtain ⟨q2, q3⟩ := hS.2.2.1.two
    go_simp
    exact hK.out _ _ _ rfl rfl rfl (Below.refl _ _)
  simp only [zD, zE, zF]
  refine obs_step (Eq.trans (by simp only [zA, zB, zC]; exact rfl) rfl) rfl (fun w' hS hV K hK => ?_) ?_
  · have e0 : x 0 = (.pointer (some ⟨w.heap.size, 0, none⟩)) := hV 0 (by decide)
    have q9 := hS.1; obtain ⟨q0, q1⟩ := hS.2.1.two; obtain ⟨q2, q3⟩ := hS.2.2.1.two
    go_simp
    exact hK.out _ _ _ rfl rfl rfl (Below.refl _ _)
  simp only [zD, zE, zF]
  refine obs_step (Eq.trans (by simp only [zA, zB, zC]; exact rfl) rfl) rfl (fun w' hS hV K hK => ?_) ?_
  · have q9 := hS.1; obtain ⟨q0, q1⟩ := hS.2.1.two; obtain ⟨q2, q3⟩ := hS.2.2.1.two
    go_simp
    exact hK.out _ _ _ rfl rfl rfl (Below.refl _ _)
  simp only [zD, zE, zF]
  refine obs_step (Eq.trans (by simp only [zA, zB, zC]; exact rfl) rfl) rfl (fun w' hS hV K hK => ?_) ?_
  · have e2 : x 2 = (.pointer (some ⟨w.heap.size + 1, 0, none⟩)) := hV 2 (by decide)
    have q9 := hS.1; obtain ⟨q0, q1⟩ := hS.2.1.two; obtain ⟨q2, q3⟩ := hS.2.2.1.two
    go_simp
    exact hK.out _ _ _ rfl rfl rfl (Below.refl _ _)
  simp only [zD, zE, zF]
  refine obs_step (Eq.trans (by simp only [zA, zB, zC]; exact rfl) rfl) rfl (fun w' hS hV K hK => ?_) ?_
  · have e1 : x 1 = (.int .i64 (P)) := hV 1 (by decide)
    have e3 : x 3 = (.int .i64 (P)) := hV 3 (by decide)
    have q9 := hS.1; obtain ⟨q0, q1⟩ := hS.2.1.two; obtain ⟨q2, q3⟩ := hS.2.2.1.two
    go_simp
    exact hK.out _ _ _ rfl rfl rfl (Below.refl _ _)
  simp only [zD, zE, zF]
  refine obs_step (Eq.trans (by simp only [zA, zB, zC]; exact rfl) rfl) rfl (fun w' hS hV K hK => ?_) ?_
  · have e4 : x 4 = (.bool false) := hV 4 (by decide)
    have q9 := hS.1; obtain ⟨q0, q1⟩ := hS.2.1.two; obtain ⟨q2, q3⟩ := hS.2.2.1.two
    go_simp
    exact hK.out _ _ _ rfl rfl rfl (Below.refl _ _)
  simp only [zD, zE, zF]
  refine obs_step (Eq.trans (by simp only [zA, zB, zC]; exact rfl) rfl) rfl (fun w' hS hV K hK => ?_) ?_
  · have e5 : x 5 = (.bool false) := hV 5 (by decide)
    have q9 := hS.1; obtain ⟨q0, q1⟩ := hS.2.1.two; obtain ⟨q2, q3⟩ := hS.2.2.1.two
    go_simp
    exact hK.out _ _ _ rfl rfl rfl (Below.refl _ _)
  simp only [zD, zE, zF]
  refine obs_step (Eq.trans (by simp only [zA, zB, zC]; exact rfl) rfl) rfl (fun w' hS hV K hK => ?_) ?_
  · have e5 : x 5 = (.bool false) := hV 5 (by decide)
    have e6 : x 6 = (.agg #[.int .i64 P, .slice A n c]) := hV 6 (by decide)
    have q9 := hS.1; obtain ⟨q0, q1⟩ := hS.2.1.two; obtain ⟨q2, q3⟩ := hS.2.2.1.two
    go_simp
    refine (dim_any _ _ _ _ _).mono ?_
    rintro e v1 ⟨rfl, hb⟩
    exact hK.out _ _ _ rfl rfl rfl hb
  simp only [zD, zE, zF]
  refine obs_step (Eq.trans (by simp only [zA, zB, zC]; exact rfl) rfl) rfl (fun w' hS hV K hK => ?_) ?_
  · have e5 : x 5 = (.bool false) := hV 5 (by decide)
    have q9 := hS.1; obtain ⟨q0, q1⟩ := hS.2.1.two; obtain ⟨q2, q3⟩ := hS.2.2.1.two
    go_simp
    exact hK.out _ _ _ rfl rfl rfl (Below.refl _ _)
  simp only [zD, zE, zF]
  refine obs_step (Eq.trans (by simp only [zA, zB, zC]; exact rfl) rfl) rfl (fun w' hS hV K hK => ?_) ?_
  · have e5 : x 5 = (.bool false) := hV 5 (by decide)
    have e8 : x 8 = (.agg #[.int .i64 P, .slice A n c]) := hV 8 (by decide)
    have q9 := hS.1; obtain ⟨q0, q1⟩ := hS.2.1.two; obtain ⟨q2, q3⟩ := hS.2.2.1.two
    go_simp
    refine (dim_any _ _ _ _ _).mono ?_
    rintro e v1 ⟨rfl, hb⟩
    exact hK.out _ _ _ rfl rfl rfl hb
  simp only [zD, zE, zF]
  refine obs_step (Eq.trans (by simp only [zA, zB, zC]; exact rfl) rfl) rfl (fun w' hS hV K hK => ?_) ?_
  · have e5 : x 5 = (.bool false) := hV 5 (by decide)
    have e7 : x 7 = (.int .i64 (n)) := hV 7 (by decide)
    have e9 : x 9 = (.int .i64 (n)) := hV 9 (by decide)
    have q9 := hS.1; obtain ⟨q0, q1⟩ := hS.2.1.two; obtain ⟨q2, q3⟩ := hS.2.2.1.two
    go_simp
    exact hK.out _ _ _ rfl rfl rfl (Below.refl _ _)
  simp only [zD, zE, zF]
  refine obs_step (Eq.trans (by simp only [zA, zB, zC]; exact rfl) rfl) rfl (fun w' hS hV K hK => ?_) ?_
  · have e5 : x 5 = (.bool false) := hV 5 (by decide)
    have e10 : x 10 = (.bool false) := hV 10 (by decide)
    have q9 := hS.1; obtain ⟨q0, q1⟩ := hS.2.1.two; obtain ⟨q2, q3⟩ := hS.2.2.1.two
    go_simp
    exact hK.out _ _ _ rfl rfl rfl (Below.refl _ _)
  simp only [zD, zE, zF]
  refine obs_step (Eq.trans (by simp only [zA, zB, zC]; exact rfl) rfl) rfl (fun w' hS hV K hK => ?_) ?_
  · have e11 : x 11 = (.bool false) := hV 11 (by decide)
    have q9 := hS.1; obtain ⟨q0, q1⟩ := hS.2.1.two; obtain ⟨q2, q3⟩ := hS.2.2.1.two
    go_simp
    exact hK.out _ _ _ rfl rfl rfl (Below.refl _ _)
  simp only [zD, zE, zF]
  refine obs_step (Eq.trans (by simp only [zA, zB, zC]; exact rfl) rfl) rfl (fun w' hS hV K hK => ?_) ?_
  · have e12 : x 12 = (.bool false) := hV 12 (by decide)
    have q9 := hS.1; obtain ⟨q0, q1⟩ := hS.2.1.two; obtain ⟨q2, q3⟩ := hS.2.2.1.two
    go_simp
    exact hK.out _ _ _ rfl rfl rfl (Below.refl _ _)
  simp only [zD, zE, zF]
  refine obs_step (Eq.trans (by simp only [zA, zB, zC]; exact rfl) rfl) rfl (fun w' hS hV K hK => ?_) ?_
  · have e12 : x 12 = (.bool false) := hV 12 (by decide)
    have e13 : x 13 = (.agg #[.int .i64 P, .slice A n c]) := hV 13 (by decide)
    have q9 := hS.1; obtain ⟨q0, q1⟩ := hS.2.1.two; obtain ⟨q2, q3⟩ := hS.2.2.1.two
    go_simp
    refine (field_any _ _ _ _ _).mono ?_
    rintro e v1 ⟨rfl, hb⟩
    exact hK.out _ _ _ rfl rfl rfl hb
  simp only [zD, zE, zF]
  refine obs_step (Eq.trans (by simp only [zA, zB, zC]; exact rfl) rfl) rfl (fun w' hS hV K hK => ?_) ?_
  · have e12 : x 12 = (.bool false) := hV 12 (by decide)
    have q9 := hS.1; obtain ⟨q0, q1⟩ := hS.2.1.two; obtain ⟨q2, q3⟩ := hS.2.2.1.two
    go_simp
    exact hK.out _ _ _ rfl rfl rfl (Below.refl _ _)
  simp only [zD, zE, zF]
  refine obs_step (Eq.trans (by simp only [zA, zB, zC]; exact rfl) rfl) rfl (fun w' hS hV K hK => ?_) ?_
  · have e12 : x 12 = (.bool false) := hV 12 (by decide)
    have e14 : x 14 = (.int .i64 (P)) := hV 14 (by decide)
    have e15 : x 15 = (.slice (some ⟨g, o, none⟩) r d) := hV 15 (by decide)
    have q9 := hS.1; obtain ⟨q0, q1⟩ := hS.2.1.two; obtain ⟨q2, q3⟩ := hS.2.2.1.two
    go_simp
    refine (HIM.out _ hS.2.2.2).mono ?_
    rintro e v1 ⟨rfl, rfl⟩
    exact hK.out _ _ _ rfl rfl rfl (Below.refl _ _)
  simp only [zD, zE, zF]
  refine obs_step (Eq.trans (by simp only [zA, zB, zC]; exact rfl) rfl) rfl (fun w' hS hV K hK => ?_) ?_
  · have e12 : x 12 = (.bool false) := hV 12 (by decide)
    have e16 : x 16 = (.bool true) := hV 16 (by decide)
    have q9 := hS.1; obtain ⟨q0, q1⟩ := hS.2.1.two; obtain ⟨q2, q3⟩ := hS.2.2.1.two
    go_simp
    exact hK.out _ _ _ rfl rfl rfl (Below.refl _ _)
  simp only [zD, zE, zF]
  refine obs_step (Eq.trans (by simp only [zA, zB, zC]; exact rfl) rfl) rfl (fun w' hS hV K hK => ?_) ?_
  · have e12 : x 12 = (.bool false) := hV 12 (by decide)
    have e17 : x 17 = (.bool false) := hV 17 (by decide)
    have q9 := hS.1; obtain ⟨q0, q1⟩ := hS.2.1.two; obtain ⟨q2, q3⟩ := hS.2.2.1.two
    go_simp
    exact hK.out _ _ _ rfl rfl rfl (Below.refl _ _)
  simp only [zD, zE, zF]
  refine obs_step (Eq.trans (by simp only [zA, zB, zC]; exact rfl) rfl) rfl (fun w' hS hV K hK => ?_) ?_
  · have e18 : x 18 = (.bool false) := hV 18 (by decide)
    have q9 := hS.1; obtain ⟨q0, q1⟩ := hS.2.1.two; obtain ⟨q2, q3⟩ := hS.2.2.1.two
    go_simp
    exact hK.out _ _ _ rfl rfl rfl (Below.refl _ _)
  simp only [zD, zE, zF]
  refine obs_step (Eq.trans (by simp only [zA, zB, zC]; exact rfl) rfl) rfl (fun w' hS hV K hK => ?_) ?_
  · have e19 : x 19 = (.bool false) := hV 19 (by decide)
    have q9 := hS.1; obtain ⟨q0, q1⟩ := hS.2.1.two; obtain ⟨q2, q3⟩ := hS.2.2.1.two
    go_simp
    exact hK.out _ _ _ rfl rfl rfl (Below.refl _ _)
  simp only [zD, zE, zF]
  refine obs_step (Eq.trans (by simp only [zA, zB, zC]; exact rfl) rfl) rfl (fun w' hS hV K hK => ?_) ?_
  · have e19 : x 19 = (.bool false) := hV 19 (by decide)
    have e20 : x 20 = (.slice (some ⟨g, o, none⟩) r d) := hV 20 (by decide)
    have q9 := hS.1; obtain ⟨q0, q1⟩ := hS.2.1.two; obtain ⟨q2, q3⟩ := hS.2.2.1.two
    go_simp
    exact hK.out _ _ _ rfl rfl rfl (Below.refl _ _)
  simp only [zD, zE, zF]
  refine obs_step (Eq.trans (by simp only [zA, zB, zC]; exact rfl) rfl) rfl (fun w' hS hV K hK => ?_) ?_
  · have e19 : x 19 = (.bool false) := hV 19 (by decide)
    have q9 := hS.1; obtain ⟨q0, q1⟩ := hS.2.1.two; obtain ⟨q2, q3⟩ := hS.2.2.1.two
    go_simp
    exact hK.out _ _ _ rfl rfl rfl (Below.refl _ _)
  simp only [zD, zE, zF]
  refine obs_step (Eq.trans (by simp only [zA, zB, zC]; exact rfl) rfl) rfl (fun w' hS hV K hK => ?_) ?_
  · have e19 : x 19 = (.bool false) := hV 19 (by decide)
    have e22 : x 22 = (.agg #[.int .i64 P, .slice A n c]) := hV 22 (by decide)
    have q9 := hS.1; obtain ⟨q0, q1⟩ := hS.2.1.two; obtain ⟨q2, q3⟩ := hS.2.2.1.two
    go_simp
    refine (dim_any _ _ _ _ _).mono ?_
    rintro e v1 ⟨rfl, hb⟩
    exact hK.out _ _ _ rfl rfl rfl hb
  simp only [zD, zE, zF]
  refine obs_step (Eq.trans (by simp only [zA, zB, zC]; exact rfl) rfl) rfl (fun w' hS hV K hK => ?_) ?_
  · have e19 : x 19 = (.bool false) := hV 19 (by decide)
    have e21 : x 21 = (.int .i64 (r)) := hV 21 (by decide)
    have e23 : x 23 = (.int .i64 (n)) := hV 23 (by decide)
    have q9 := hS.1; obtain ⟨q0, q1⟩ := hS.2.1.two; obtain ⟨q2, q3⟩ := hS.2.2.1.two
    go_simp
    exact hK.out _ _ _ rfl rfl rfl (Below.refl _ _)
  simp only [zD, zE, zF]
  refine obs_step (Eq.trans (by simp only [zA, zB, zC]; exact rfl) rfl) rfl (fun w' hS hV K hK => ?_) ?_
  · have e19 : x 19 = (.bool false) := hV 19 (by decide)
    have e24 : x 24 = (.bool true) := hV 24 (by decide)
    have q9 := hS.1; obtain ⟨q0, q1⟩ := hS.2.1.two; obtain ⟨q2, q3⟩ := hS.2.2.1.two
    go_simp
    exact hK.out _ _ _ rfl rfl rfl (Below.refl _ _)
  simp only [zD, zE, zF]
  refine obs_step (Eq.trans (by simp only [zA, zB, zC]; exact rfl) rfl) rfl (fun w' hS hV K hK => ?_) ?_
  · have e25 : x 25 = (.bool true) := hV 25 (by decide)
    have q9 := hS.1; obtain ⟨q0, q1⟩ := hS.2.1.two; obtain ⟨q2, q3⟩ := hS.2.2.1.two
    go_simp
    exact hK.out _ _ _ rfl rfl rfl (Below.refl _ _)
  simp only [zD, zE, zF]
  refine obs_step (Eq.trans (by simp only [zA, zB, zC]; exact rfl) rfl) rfl (fun w' hS hV K hK => ?_) ?_
  · have e26 : x 26 = (.bool true) := hV 26 (by decide)
    have q9 := hS.1; obtain ⟨q0, q1⟩ := hS.2.1.two; obtain ⟨q2, q3⟩ := hS.2.2.1.two
    go_simp
    exact hK.out _ _ _ rfl rfl rfl (Below.refl _ _)
  simp only [zD, zE, zF]
  refine obs_step (Eq.trans (by simp only [zA, zB, zC]; exact rfl) rfl) rfl (fun w' hS hV K hK => ?_) ?_
  · have e26 : x 26 = (.bool true) := hV 26 (by decide)
    have e27 : x 27 = undef := hV 27 (by decide)
    have q9 := hS.1; obtain ⟨q0, q1⟩ := hS.2.1.two; obtain ⟨q2, q3⟩ := hS.2.2.1.two
    go_simp
    exact hK.out _ _ _ rfl rfl rfl (Below.refl _ _)
  simp only [zD, zE, zF]
  refine obs_step (Eq.trans (by simp only [zA, zB, zC]; exact rfl) rfl) rfl (fun w' hS hV K hK => ?_) ?_
  · have e26 : x 26 = (.bool true) := hV 26 (by decide)
    have e28 : x 28 = undef := hV 28 (by decide)
    have q9 := hS.1; obtain ⟨q0, q1⟩ := hS.2.1.two; obtain ⟨q2, q3⟩ := hS.2.2.1.two
    go_simp
    exact hK.out _ _ _ rfl rfl rfl (Below.refl _ _)
  simp only [zD, zE, zF]
  refine obs_step (Eq.trans (by simp only [zA, zB, zC]; exact rfl) rfl) rfl (fun w' hS hV K hK => ?_) ?_
  · have e26 : x 26 = (.bool true) := hV 26 (by decide)
    have e29 : x 29 = undef := hV 29 (by decide)
    have q9 := hS.1; obtain ⟨q0, q1⟩ := hS.2.1.two; obtain ⟨q2, q3⟩ := hS.2.2.1.two
    go_simp
    exact hK.out _ _ _ rfl rfl rfl (Below.refl _ _)
  simp only [zD, zE, zF]
  refine obs_step (Eq.trans (by simp only [zA, zB, zC]; exact rfl) rfl) rfl (fun w' hS hV K hK => ?_) ?_
  · have e26 : x 26 = (.bool true) := hV 26 (by decide)
    have q9 := hS.1; obtain ⟨q0, q1⟩ := hS.2.1.two; obtain ⟨q2, q3⟩ := hS.2.2.1.two
    go_simp
    exact hK.out _ _ _ rfl rfl rfl (Below.refl _ _)
  simp only [zD, zE, zF]
  refine obs_step (Eq.trans (by simp only [zA, zB, zC]; exact rfl) rfl) rfl (fun w' hS hV K hK => ?_) ?_
  · have e26 : x 26 = (.bool true) := hV 26 (by decide)
    have e31 : x 31 = undef := hV 31 (by decide)
    have q9 := hS.1; obtain ⟨q0, q1⟩ := hS.2.1.two; obtain ⟨q2, q3⟩ := hS.2.2.1.two
    go_simp
    exact hK.out _ _ _ rfl rfl rfl (Below.refl _ _)
  simp only [zD, zE, zF]
  refine obs_step (Eq.trans (by simp only [zA, zB, zC]; exact rfl) rfl) rfl (fun w' hS hV K hK => ?_) ?_
  · have e26 : x 26 = (.bool true) := hV 26 (by decide)
    have e30 : x 30 = undef := hV 30 (by decide)
    have e32 : x 32 = undef := hV 32 (by decide)
    have q9 := hS.1; obtain ⟨q0, q1⟩ := hS.2.1.two; obtain ⟨q2, q3⟩ := hS.2.2.1.two
    go_simp
    exact hK.out _ _ _ rfl rfl rfl (Below.refl _ _)
  simp only [zD, zE, zF]
  refine obs_step (Eq.trans (by simp only [zA, zB, zC]; exact rfl) rfl) rfl (fun w' hS hV K hK => ?_) ?_
  · have e26 : x 26 = (.bool true) := hV 26 (by decide)
    have e33 : x 33 = undef := hV 33 (by decide)
    have q9 := hS.1; obtain ⟨q0, q1⟩ := hS.2.1.two; obtain ⟨q2, q3⟩ := hS.2.2.1.two
    go_simp
    exact hK.out _ _ _ rfl rfl rfl (Below.refl _ _)
  simp only [zD, zE, zF]
  refine obs_step (Eq.trans (by simp only [zA, zB, zC]; exact rfl) rfl) rfl (fun w' hS hV K hK => ?_) ?_
  · have e34 : x 34 = (.bool true) := hV 34 (by decide)
    have q9 := hS.1; obtain ⟨q0, q1⟩ := hS.2.1.two; obtain ⟨q2, q3⟩ := hS.2.2.1.two
    go_simp
    exact hK.out _ _ _ rfl rfl rfl (Below.refl _ _)
  simp only [zD, zE, zF]
  refine obs_step (Eq.trans (by simp only [zA, zB, zC]; exact rfl) rfl) rfl (fun w' hS hV K hK => ?_) ?_
  · have e35 : x 35 = (.bool true) := hV 35 (by decide)
    have q9 := hS.1; obtain ⟨q0, q1⟩ := hS.2.1.two; obtain ⟨q2, q3⟩ := hS.2.2.1.two
    go_simp
    exact hK.out _ _ _ rfl rfl rfl (Below.refl _ _)
  simp only [zD, zE, zF]
  refine obs_step (Eq.trans (by simp only [zA, zB, zC]; exact rfl) rfl) rfl (fun w' hS hV K hK => ?_) ?_
  · have e35 : x 35 = (.bool true) := hV 35 (by decide)
    have e36 : x 36 = undef := hV 36 (by decide)
    have q9 := hS.1; obtain ⟨q0, q1⟩ := hS.2.1.two; obtain ⟨q2, q3⟩ := hS.2.2.1.two
    go_simp
    exact hK.out _ _ _ rfl rfl rfl (Below.refl _ _)
  simp only [zD, zE, zF]
  refine obs_step (Eq.trans (by simp only [zA, zB, zC]; exact rfl) rfl) rfl (fun w' hS hV K hK => ?_) ?_
  · have e35 : x 35 = (.bool true) := hV 35 (by decide)
    have q9 := hS.1; obtain ⟨q0, q1⟩ := hS.2.1.two; obtain ⟨q2, q3⟩ := hS.2.2.1.two
    go_simp
    exact hK.out _ _ _ rfl rfl rfl (Below.refl _ _)
  simp only [zD, zE, zF]
  refine obs_step (Eq.trans (by simp only [zA, zB, zC]; exact rfl) rfl) rfl (fun w' hS hV K hK => ?_) ?_
  · have e35 : x 35 = (.bool true) := hV 35 (by decide)
    have e37 : x 37 = undef := hV 37 (by decide)
    have e38 : x 38 = undef := hV 38 (by decide)
    have q9 := hS.1; obtain ⟨q0, q1⟩ := hS.2.1.two; obtain ⟨q2, q3⟩ := hS.2.2.1.two
    go_simp
    exact hK.out _ _ _ rfl rfl rfl (Below.refl _ _)
  simp only [zD, zE, zF]
  refine obs_step (Eq.trans (by simp only [zA, zB, zC]; exact rfl) rfl) rfl (fun w' hS hV K hK => ?_) ?_
  · have e35 : x 35 = (.bool true) := hV 35 (by decide)
    have e39 : x 39 = undef := hV 39 (by decide)
    have q9 := hS.1; obtain ⟨q0, q1⟩ := hS.2.1.two; obtain ⟨q2, q3⟩ := hS.2.2.1.two
    go_simp
    exact hK.out _ _ _ rfl rfl rfl (Below.refl _ _)
  simp only [zD, zE, zF]
  refine obs_step (Eq.trans (by simp only [zA, zB, zC]; exact rfl) rfl) rfl (fun w' hS hV K hK => ?_) ?_
  · have e35 : x 35 = (.bool true) := hV 35 (by decide)
    have e40 : x 40 = undef := hV 40 (by decide)
    have q9 := hS.1; obtain ⟨q0, q1⟩ := hS.2.1.two; obtain ⟨q2, q3⟩ := hS.2.2.1.two
    go_simp
    exact hK.out _ _ _ rfl rfl rfl (Below.refl _ _)
  simp only [zD, zE, zF]
  refine fun w' hS hV => ?_
  have e0 : x 0 = (.pointer (some ⟨w.heap.size, 0, none⟩)) := hV 0 (by decide)
  have e1 : x 1 = (.int .i64 (P)) := hV 1 (by decide)
  have e2 : x 2 = (.pointer (some ⟨w.heap.size + 1, 0, none⟩)) := hV 2 (by decide)
  have e3 : x 3 = (.int .i64 (P)) := hV 3 (by decide)
  have e4 : x 4 = (.bool false) := hV 4 (by decide)
  have e5 : x 5 = (.bool false) := hV 5 (by decide)
  have e6 : x 6 = (.agg #[.int .i64 P, .slice A n c]) := hV 6 (by decide)
  have e7 : x 7 = (.int .i64 (n)) := hV 7 (by decide)
  have e8 : x 8 = (.agg #[.int .i64 P, .slice A n c]) := hV 8 (by decide)
  have e9 : x 9 = (.int .i64 (n)) := hV 9 (by decide)
  have e10 : x 10 = (.bool false) := hV 10 (by decide)
  have e11 : x 11 = (.bool false) := hV 11 (by decide)
  have e12 : x 12 = (.bool false) := hV 12 (by decide)
  have e13 : x 13 = (.agg #[.int .i64 P, .slice A n c]) := hV 13 (by decide)
  have e14 : x 14 = (.int .i64 (P)) := hV 14 (by decide)
  have e15 : x 15 = (.slice (some ⟨g, o, none⟩) r d) := hV 15 (by decide)
  have e16 : x 16 = (.bool true) := hV 16 (by decide)
  have e17 : x 17 = (.bool false) := hV 17 (by decide)
  have e18 : x 18 = (.bool false) := hV 18 (by decide)
  have e19 : x 19 = (.bool false) := hV 19 (by decide)
  have e20 : x 20 = (.slice (some ⟨g, o, none⟩) r d) := hV 20 (by decide)
  have e21 : x 21 = (.int .i64 (r)) := hV 21 (by decide)
  have e22 : x 22 = (.agg #[.int .i64 P, .slice A n c]) := hV 22 (by decide)
  have e23 : x 23 = (.int .i64 (n)) := hV 23 (by decide)
  have e24 : x 24 = (.bool true) := hV 24 (by decide)
  have e25 : x 25 = (.bool true) := hV 25 (by decide)
  have e26 : x 26 = (.bool true) := hV 26 (by decide)
  have e27 : x 27 = undef := hV 27 (by decide)
  have e28 : x 28 = undef := hV 28 (by decide)
  have e29 : x 29 = undef := hV 29 (by decide)
  have e30 : x 30 = undef := hV 30 (by decide)
  have e31 : x 31 = undef := hV 31 (by decide)
  have e32 : x 32 = undef := hV 32 (by decide)
  have e33 : x 33 = undef := hV 33 (by decide)
  have e34 : x 34 = (.bool true) := hV 34 (by decide)
  have e35 : x 35 = (.bool true) := hV 35 (by decide)
  have e36 : x 36 = undef := hV 36 (by decide)
  have e37 : x 37 = undef := hV 37 (by decide)
  have e38 : x 38 = undef := hV 38 (by decide)
  have e39 : x 39 = undef := hV 39 (by decide)
  have e40 : x 40 = undef := hV 40 (by decide)
  have e41 : x 41 = (.bool true) := hV 41 (by decide)
  simp only [e0, e1, e2, e3, e4, e5, e6, e7, e8, e9, e10, e11, e12, e13, e14, e15, e16, e17, e18, e19, e20, e21, e22, e23, e24, e25, e26, e27, e28, e29, e30, e31, e32, e33, e34, e35, e36, e37, e38, e39, e40, e41]
  clear e0 e1 e2 e3 e4 e5 e6 e7 e8 e9 e10 e11 e12 e13 e14 e15 e16 e17 e18 e19 e20 e21 e22 e23 e24 e25 e26 e27 e28 e29 e30 e31 e32 e33 e34 e35 e36 e37 e38 e39 e40 e41
  refine wpAny_done (by kernel_rfl) ?_ _
  have hb9 := hS.2.2.2
  go_wp2
  go_ret
  exact ⟨rfl, hb9⟩
set_option maxHeartbeats 3200000 in
set_option maxRecDepth 8000 in
theorem isIsometry_2 (P : Int) (A : Option Addr) (n c : Nat) (sq : List Int) (D : Option Addr) (r d : Nat) (M : List (List Int)) (m : Nat) (w : World) (hp0 : 0 < P) (hp1 : P ≤ 13) (hr0 : 0 < r) (hr : r ≤ 16) (hm1 : 1 ≤ m) (hm : m ≤ 16) (hd : RdII w D r M) (hM : Rect m M) (hb : (M.all fun r => nums P r) = true) (h1 : r = n) (h2 : m ≠ n) :
    Calls Tryz.prog 147 #[.agg #[.int .i64 P, .slice A n c], .agg #[.int .i64 P, .slice A n c], .slice D r d] w fun e w' => e = .returned (.bool false) ∧ Below w.heap.size w w' := by
  have t7 : (P != P) = false := by simp
  subst h1
  have t4 : ((r : Int) != (r : Int)) = false := by simp
  have t5 : ((m : Int) != (r : Int)) = true := by rw [bne_iff_ne]; omega
  have hB0 : Below w.heap.size w ((w.alloc (.cells #[.int .i64 P, .slice A r c] 26)).alloc (.cells #[.int .i64 P, .slice A r c] 26)) := ((Below.refl _ _).alloc (Nat.le_refl _) _).alloc (by simp) _
  have k0 : Blk ((w.alloc (.cells #[.int .i64 P, .slice A r c] 26)).alloc (.cells #[.int .i64 P, .slice A r c] 26)) w.heap.size 26 #[.int .i64 P, .slice A r c] := (Blk.new _ _ _).alloc _
  have k1 : Blk ((w.alloc (.cells #[.int .i64 P, .slice A r c] 26)).alloc (.cells #[.int .i64 P, .slice A r c] 26)) (w.heap.size + 1) 26 #[.int .i64 P, .slice A r c] := Blk.newAt3 (by simp)
  have HIM := Lib.hid fun w' (h : Below w.heap.size w w') => isMatrix_any P D r d M m w' hp0 hp1 hr0 hr hm1 hm (hd.below h) hM
  rw [hb] at HIM
  obtain ⟨g, o, rfl, hx0, A0, c0, hc0, -, -⟩ := (hd.below hB0).at_ hr0
  rw [hM M[0] (List.getElem_mem hx0), Nat.add_zero] at hc0
  clear hM hd hb
  obtain ⟨q0, q1⟩ := k0.two
  obtain ⟨q2, q3⟩ := k1.two
  go_enter Tryz.func147, Tryz.ntmps147
  go_wp2
  refine wp_obs 42 [[], [0], [], [2], [0, 1, 2, 3], [0, 1, 2, 3, 4], [0, 1, 2, 3, 4, 5], [0, 1, 2, 3, 4, 5, 6], [0, 1, 2, 3, 4, 5], [0, 1, 2, 3, 4, 5, 8], [0, 1, 2, 3, 4, 5, 6, 7, 8, 9], [0, 1, 2, 3, 4, 5, 6, 7, 8, 9, 10], [0, 1, 2, 3, 4, 5, 6, 7, 8, 9, 10, 11], [0, 1, 2, 3, 4, 5, 6, 7, 8, 9, 10, 11, 12], [0, 1, 2, 3, 4, 5, 6, 7, 8, 9, 10, 11, 12, 13], [0, 1, 2, 3, 4, 5, 6, 7, 8, 9, 10, 11, 12], [0, 1, 2, 3, 4, 5, 6, 7, 8, 9, 10, 11, 12, 13, 14, 15], [0, 1, 2, 3, 4, 5, 6, 7, 8, 9, 10, 11, 12, 13, 14, 15, 16], [0, 1, 2, 3, 4, 5, 6, 7, 8, 9, 10, 11, 12, 13, 14, 15, 16, 17], [0, 1, 2, 3, 4, 5, 6, 7, 8, 9, 10, 11, 12, 13, 14, 15, 16, 17, 18], [0, 1, 2, 3, 4, 5, 6, 7, 8, 9, 10, 11, 12, 13, 14, 15, 16, 17, 18, 19], [0, 1, 2, 3, 4, 5, 6, 7, 8, 9, 10, 11, 12, 13, 14, 15, 16, 17, 18, 19, 20], [0, 1, 2, 3, 4, 5, 6, 7, 8, 9, 10, 11, 12, 13, 14, 15, 16, 17, 18, 19], [0, 1, 2, 3, 4, 5, 6, 7, 8, 9, 10, 11, 12, 13, 14, 15, 16, 17, 18, 19, 22], [0, 1, 2, 3, 4, 5, 6, 7, 8, 9, 10, 11, 12, 13, 14, 15, 16, 17, 18, 19, 20, 21, 22, 23], [0, 1, 2, 3, 4, 5, 6, 7, 8, 9, 10, 11, 12, 13, 14, 15, 16, 17, 18, 19, 20, 21, 22, 23, 24], [0, 1, 2, 3, 4, 5, 6, 7, 8, 9, 10, 11, 12, 13, 14, 15, 16, 17, 18, 19, 20, 21, 22, 23, 24, 25], [0, 1, 2, 3, 4, 5, 6, 7, 8, 9, 10, 11, 12, 13, 14, 15, 16, 17, 18, 19, 20, 21, 22, 23, 24, 25, 26], [0, 1, 2, 3, 4, 5, 6, 7, 8, 9, 10, 11, 12, 13, 14, 15, 16, 17, 18, 19, 20, 21, 22, 23, 24, 25, 26, 27], [0, 1, 2, 3, 4, 5, 6, 7, 8, 9, 10, 11, 12, 13, 14, 15, 16, 17, 18, 19, 20, 21, 22, 23, 24, 25, 26, 27, 28], [0, 1, 2, 3, 4, 5, 6, 7, 8, 9, 10, 11, 12, 13, 14, 15, 16, 17, 18, 19, 20, 21, 22, 23, 24, 25, 26, 27, 28, 29], [0, 1, 2, 3, 4, 5, 6, 7, 8, 9, 10, 11, 12, 13, 14, 15, 16, 17, 18, 19, 20, 21, 22, 23, 24, 25, 26], [0, 1, 2, 3, 4, 5, 6, 7, 8, 9, 10, 11, 12, 13, 14, 15, 16, 17, 18, 19, 20, 21, 22, 23, 24, 25, 26, 31], [0, 1, 2, 3, 4, 5, 6, 7, 8, 9, 10, 11, 12, 13, 14, 15, 16, 17, 18, 19, 20, 21, 22, 23, 24, 25, 26, 27, 28, 29, 30, 31, 32], [0, 1, 2, 3, 4, 5, 6, 7, 8, 9, 10, 11, 12, 13, 14, 15, 16, 17, 18, 19, 20, 21, 22, 23, 24, 25, 26, 27, 28, 29, 30, 31, 32, 33], [0, 1, 2, 3, 4, 5, 6, 7, 8, 9, 10, 11, 12, 13, 14, 15, 16, 17, 18, 19, 20, 21, 22, 23, 24, 25, 26, 27, 28, 29, 30, 31, 32, 33, 34], [0, 1, 2, 3, 4, 5, 6, 7, 8, 9, 10, 11, 12, 13, 14, 15, 16, 17, 18, 19, 20, 21, 22, 23, 24, 25, 26, 27, 28, 29, 30, 31, 32, 33, 34, 35], [0, 1, 2, 3, 4, 5, 6, 7, 8, 9, 10, 11, 12, 13, 14, 15, 16, 17, 18, 19, 20, 21, 22, 23, 24, 25, 26, 27, 28, 29, 30, 31, 32, 33, 34, 35, 36], [0, 1, 2, 3, 4, 5, 6, 7, 8, 9, 10, 11, 12, 13, 14, 15, 16, 17, 18, 19, 20, 21, 22, 23, 24, 25, 26, 27, 28, 29, 30, 31, 32, 33, 34, 35], [0, 1, 2, 3, 4, 5, 6, 7, 8, 9, 10, 11, 12, 13, 14, 15, 16, 17, 18, 19, 20, 21, 22, 23, 24, 25, 26, 27, 28, 29, 30, 31, 32, 33, 34, 35, 36, 37, 38], [0, 1, 2, 3, 4, 5, 6, 7, 8, 9, 10, 11, 12, 13, 14, 15, 16, 17, 18, 19, 20, 21, 22, 23, 24, 25, 26, 27, 28, 29, 30, 31, 32, 33, 34, 35, 36, 37, 38, 39], [0, 1, 2, 3, 4, 5, 6, 7, 8, 9, 10, 11, 12, 13, 14, 15, 16, 17, 18, 19, 20, 21, 22, 23, 24, 25, 26, 27, 28, 29, 30, 31, 32, 33, 34, 35, 36, 37, 38, 39, 40]] [VIs (.pointer (some ⟨w.heap.size, 0, none⟩)), VIs (.int .i64 (P)), VIs (.pointer (some ⟨w.heap.size + 1, 0, none⟩)), VIs (.int .i64 (P)), VIs (.bool false), VIs (.bool false), VIs (.agg #[.int .i64 P, .slice A r c]), VIs (.int .i64 (r)), VIs (.agg #[.int .i64 P, .slice A r c]), VIs (.int .i64 (r)), VIs (.bool false), VIs (.bool false), VIs (.bool false), VIs (.agg #[.int .i64 P, .slice A r c]), VIs (.int .i64 (P)), VIs (.slice (some ⟨g, o, none⟩) r d), VIs (.bool true), VIs (.bool false), VIs (.bool false), VIs (.bool false), VIs (.slice (some ⟨g, o, none⟩) r d), VIs (.int .i64 (r)), VIs (.agg #[.int .i64 P, .slice A r c]), VIs (.int .i64 (r)), VIs (.bool false), VIs (.bool false), VIs (.bool false), VIs (.slice (some ⟨g, o, none⟩) r d), VIs (.pointer (some ⟨g, o, none⟩)), VIs (.slice A0 m c0), VIs (.int .i64 (m)), VIs (.agg #[.int .i64 P, .slice A r c]), VIs (.int .i64 (r)), VIs (.bool true), VIs (.bool true), VIs (.bool true), VIs undef, VIs undef, VIs undef, VIs undef, VIs undef, VIs (.bool true)] (fun w' => w'.cell? ⟨g, o, none⟩ = some (.slice A0 m c0) ∧ Blk w' w.heap.size 26 #[.int .i64 P, .slice A r c] ∧ Blk w' (w.heap.size + 1) 26 #[.int .i64 P, .slice A r c] ∧ Below w.heap.size w w') (by kernel_rfl) (by kernel_rfl) (fun _ _ h hb => ⟨(hb.cell (World.block_lt_of_cell? _ _ h.1)).trans h.1, h.2.1.below hb h.2.1.lt, h.2.2.1.below hb h.2.2.1.lt, h.2.2.2.trans (hb.mono h.2.2.2.size)⟩) (⟨hc0, k0.drew, k1.drew, hB0.drew⟩) (fun x => ?_)
  refine obs_step (Eq.trans (by simp only [zA, zC]; exact rfl) rfl) rfl (fun w' hS hV K hK => ?_) ?_
  · have q9 := hS.1; obtain ⟨q0, q1⟩ := hS.2.1.two; obtain ⟨q2, q3⟩ := hS.2.2.1.two
    go_simp
    exact hK.out _ _ _ rfl rfl rfl (Below.refl _ _)
  simp only [zD, zE, zF]
  refine obs_step (Eq.trans (by simp only [zA, zB, zC]; exact rfl) rfl) rfl (fun w' hS hV K hK => ?_) ?_
  · have e0 : x 0 = (.pointer (some ⟨w.heap.size, 0, none⟩)) := hV 0 (by decide)
    have q9 := hS.1; obtain ⟨q0, q1⟩ := hS.2.1.two; obtain ⟨q2, q3⟩ := hS.2.2.1.two
    go_simp
    exact hK.out _ _ _ rfl rfl rfl (Below.refl _ _)
  simp only [zD, zE, zF]
  refine obs_step (Eq.trans (by simp only [zA, zB, zC]; exact rfl) rfl) rfl (fun w' hS hV K hK => ?_) ?_
  · have q9 := hS.1; obtain ⟨q0, q1⟩ := hS.2.1.two; obtain ⟨q2, q3⟩ := hS.2.2.1.two
    go_simp
    exact hK.out _ _ _ rfl rfl rfl (Below.refl _ _)
  simp only [zD, zE, zF]
  refine obs_step (Eq.trans (by simp only [zA, zB, zC]; exact rfl) rfl) rfl (fun w' hS hV K hK => ?_) ?_
  · have e2 : x 2 = (.pointer (some ⟨w.heap.size + 1, 0, none⟩)) := hV 2 (by decide)
    have q9 := hS.1; obtain ⟨q0, q1⟩ := hS.2.1.two; obtain ⟨q2, q3⟩ := hS.2.2.1.two
    go_simp
    exact hK.out _ _ _ rfl rfl rfl (Below.refl _ _)
  simp only [zD, zE, zF]
  refine obs_step (Eq.trans (by simp only [zA, zB, zC]; exact rfl) rfl) rfl (fun w' hS hV K hK => ?_) ?_
  · have e1 : x 1 = (.int .i64 (P)) := hV 1 (by decide)
    have e3 : x 3 = (.int .i64 (P)) := hV 3 (by decide)
    have q9 := hS.1; obtain ⟨q0, q1⟩ := hS.2.1.two; obtain ⟨q2, q3⟩ := hS.2.2.1.two
    go_simp
    exact hK.out _ _ _ rfl rfl rfl (Below.refl _ _)
  simp only [zD, zE, zF]
  refine obs_step (Eq.trans (by simp only [zA, zB, zC]; exact rfl) rfl) rfl (fun w' hS hV K hK => ?_) ?_
  · have e4 : x 4 = (.bool false) := hV 4 (by decide)
    have q9 := hS.1; obtain ⟨q0, q1⟩ := hS.2.1.two; obtain ⟨q2, q3⟩ := hS.2.2.1.two
    go_simp
    exact hK.out _ _ _ rfl rfl rfl (Below.refl _ _)
  simp only [zD, zE, zF]
  refine obs_step (Eq.trans (by simp only [zA, zB, zC]; exact rfl) rfl) rfl (fun w' hS hV K hK => ?_) ?_
  · have e5 : x 5 = (.bool false) := hV 5 (by decide)
    have q9 := hS.1; obtain ⟨q0, q1⟩ := hS.2.1.two; obtain ⟨q2, q3⟩ := hS.2.2.1.two
    go_simp
    exact hK.out _ _ _ rfl rfl rfl (Below.refl _ _)
  simp only [zD, zE, zF]
  refine obs_step (Eq.trans (by simp only [zA, zB, zC]; exact rfl) rfl) rfl (fun w' hS hV K hK => ?_) ?_
  · have e5 : x 5 = (.bool false) := hV 5 (by decide)
    have e6 : x 6 = (.agg #[.int .i64 P, .slice A r c]) := hV 6 (by decide)
    have q9 := hS.1; obtain ⟨q0, q1⟩ := hS.2.1.two; obtain ⟨q2, q3⟩ := hS.2.2.1.two
    go_simp
    refine (dim_any _ _ _ _ _).mono ?_
    rintro e v1 ⟨rfl, hb⟩
    exact hK.out _ _ _ rfl rfl rfl hb
  simp only [zD, zE, zF]
  refine obs_step (Eq.trans (by simp only [zA, zB, zC]; exact rfl) rfl) rfl (fun w' hS hV K hK => ?_) ?_
  · have e5 : x 5 = (.bool false) := hV 5 (by decide)
    have q9 := hS.1; obtain ⟨q0, q1⟩ := hS.2.1.two; obtain ⟨q2, q3⟩ := hS.2.2.1.two
    go_simp
    exact hK.out _ _ _ rfl rfl rfl (Below.refl _ _)
  simp only [zD, zE, zF]
  refine obs_step (Eq.trans (by simp only [zA, zB, zC]; exact rfl) rfl) rfl (fun w' hS hV K hK => ?_) ?_
  · have e5 : x 5 = (.bool false) := hV 5 (by decide)
    have e8 : x 8 = (.agg #[.int .i64 P, .slice A r c]) := hV 8 (by decide)
    have q9 := hS.1; obtain ⟨q0, q1⟩ := hS.2.1.two; obtain ⟨q2, q3⟩ := hS.2.2.1.two
    go_simp
    refine (dim_any _ _ _ _ _).mono ?_
    rintro e v1 ⟨rfl, hb⟩
    exact hK.out _ _ _ rfl rfl rfl hb
  simp only [zD, zE, zF]
  refine obs_step (Eq.trans (by simp only [zA, zB, zC]; exact rfl) rfl) rfl (fun w' hS hV K hK => ?_) ?_
  · have e5 : x 5 = (.bool false) := hV 5 (by decide)
    have e7 : x 7 = (.int .i64 (r)) := hV 7 (by decide)
    have e9 : x 9 = (.int .i64 (r)) := hV 9 (by decide)
    have q9 := hS.1; obtain ⟨q0, q1⟩ := hS.2.1.two; obtain ⟨q2, q3⟩ := hS.2.2.1.two
    go_simp
    exact hK.out _ _ _ rfl rfl rfl (Below.refl _ _)
  simp only [zD, zE, zF]
  refine obs_step (Eq.trans (by simp only [zA, zB, zC]; exact rfl) rfl) rfl (fun w' hS hV K hK => ?_) ?_
  · have e5 : x 5 = (.bool false) := hV 5 (by decide)
    have e10 : x 10 = (.bool false) := hV 10 (by decide)
    have q9 := hS.1; obtain ⟨q0, q1⟩ := hS.2.1.two; obtain ⟨q2, q3⟩ := hS.2.2.1.two
    go_simp
    exact hK.out _ _ _ rfl rfl rfl (Below.refl _ _)
  simp only [zD, zE, zF]
  refine obs_step (Eq.trans (by simp only [zA, zB, zC]; exact rfl) rfl) rfl (fun w' hS hV K hK => ?_) ?_
  · have e11 : x 11 = (.bool false) := hV 11 (by decide)
    have q9 := hS.1; obtain ⟨q0, q1⟩ := hS.2.1.two; obtain ⟨q2, q3⟩ := hS.2.2.1.two
    go_simp
    exact hK.out _ _ _ rfl rfl rfl (Below.refl _ _)
  simp only [zD, zE, zF]
  refine obs_step (Eq.trans (by simp only [zA, zB, zC]; exact rfl) rfl) rfl (fun w' hS hV K hK => ?_) ?_
  · have e12 : x 12 = (.bool false) := hV 12 (by decide)
    have q9 := hS.1; obtain ⟨q0, q1⟩ := hS.2.1.two; obtain ⟨q2, q3⟩ := hS.2.2.1.two
    go_simp
    exact hK.out _ _ _ rfl rfl rfl (Below.refl _ _)
  simp only [zD, zE, zF]
  refine obs_step (Eq.trans (by simp only [zA, zB, zC]; exact rfl) rfl) rfl (fun w' hS hV K hK => ?_) ?_
  · have e12 : x 12 = (.bool false) := hV 12 (by decide)
    have e13 : x 13 = (.agg #[.int .i64 P, .slice A r c]) := hV 13 (by decide)
    have q9 := hS.1; obtain ⟨q0, q1⟩ := hS.2.1.two; obtain ⟨q2, q3⟩ := hS.2.2.1.two
    go_simp
    refine (field_any _ _ _ _ _).mono ?_
    rintro e v1 ⟨rfl, hb⟩
    exact hK.out _ _ _ rfl rfl rfl hb
  simp only [zD, zE, zF]
  refine obs_step (Eq.trans (by simp only [zA, zB, zC]; exact rfl) rfl) rfl (fun w' hS hV K hK => ?_) ?_
  · have e12 : x 12 = (.bool false) := hV 12 (by decide)
    have q9 := hS.1; obtain ⟨q0, q1⟩ := hS.2.1.two; obtain ⟨q2, q3⟩ := hS.2.2.1.two
    go_simp
    exact hK.out _ _ _ rfl rfl rfl (Below.refl _ _)
  simp only [zD, zE, zF]
  refine obs_step (Eq.trans (by simp only [zA, zB, zC]; exact rfl) rfl) rfl (fun w' hS hV K hK => ?_) ?_
  · have e12 : x 12 = (.bool false) := hV 12 (by decide)
    have e14 : x 14 = (.int .i64 (P)) := hV 14 (by decide)
    have e15 : x 15 = (.slice (some ⟨g, o, none⟩) r d) := hV 15 (by decide)
    have q9 := hS.1; obtain ⟨q0, q1⟩ := hS.2.1.two; obtain ⟨q2, q3⟩ := hS.2.2.1.two
    go_simp
    refine (HIM.out _ hS.2.2.2).mono ?_
    rintro e v1 ⟨rfl, rfl⟩
    exact hK.out _ _ _ rfl rfl rfl (Below.refl _ _)
  simp only [zD, zE, zF]
  refine obs_step (Eq.trans (by simp only [zA, zB, zC]; exact rfl) rfl) rfl (fun w' hS hV K hK => ?_) ?_
  · have e12 : x 12 = (.bool false) := hV 12 (by decide)
    have e16 : x 16 = (.bool true) := hV 16 (by decide)
    have q9 := hS.1; obtain ⟨q0, q1⟩ := hS.2.1.two; obtain ⟨q2, q3⟩ := hS.2.2.1.two
    go_simp
    exact hK.out _ _ _ rfl rfl rfl (Below.refl _ _)
  simp only [zD, zE, zF]
  refine obs_step (Eq.trans (by simp only [zA, zB, zC]; exact rfl) rfl) rfl (fun w' hS hV K hK => ?_) ?_
  · have e12 : x 12 = (.bool false) := hV 12 (by decide)
    have e17 : x 17 = (.bool false) := hV 17 (by decide)
    have q9 := hS.1; obtain ⟨q0, q1⟩ := hS.2.1.two; obtain ⟨q2, q3⟩ := hS.2.2.1.two
    go_simp
    exact hK.out _ _ _ rfl rfl rfl (Below.refl _ _)
  simp only [zD, zE, zF]
  refine obs_step (Eq.trans (by simp only [zA, zB, zC]; exact rfl) rfl) rfl (fun w' hS hV K hK => ?_) ?_
  · have e18 : x 18 = (.bool false) := hV 18 (by decide)
    have q9 := hS.1; obtain ⟨q0, q1⟩ := hS.2.1.two; obtain ⟨q2, q3⟩ := hS.2.2.1.two
    go_simp
    exact hK.out _ _ _ rfl rfl rfl (Below.refl _ _)
  simp only [zD, zE, zF]
  refine obs_step (Eq.trans (by simp only [zA, zB, zC]; exact rfl) rfl) rfl (fun w' hS hV K hK => ?_) ?_
  · have e19 : x 19 = (.bool false) := hV 19 (by decide)
    have q9 := hS.1; obtain ⟨q0, q1⟩ := hS.2.1.two; obtain ⟨q2, q3⟩ := hS.2.2.1.two
    go_simp
    exact hK.out _ _ _ rfl rfl rfl (Below.refl _ _)
  simp only [zD, zE, zF]
  refine obs_step (Eq.trans (by simp only [zA, zB, zC]; exact rfl) rfl) rfl (fun w' hS hV K hK => ?_) ?_
  · have e19 : x 19 = (.bool false) := hV 19 (by decide)
    have e20 : x 20 = (.slice (some ⟨g, o, none⟩) r d) := hV 20 (by decide)
    have q9 := hS.1; obtain ⟨q0, q1⟩ := hS.2.1.two; obtain ⟨q2, q3⟩ := hS.2.2.1.two
    go_simp
    exact hK.out _ _ _ rfl rfl rfl (Below.refl _ _)
  simp only [zD, zE, zF]
  refine obs_step (Eq.trans (by simp only [zA, zB, zC]; exact rfl) rfl) rfl (fun w' hS hV K hK => ?_) ?_
  · have e19 : x 19 = (.bool false) := hV 19 (by decide)
    have q9 := hS.1; obtain ⟨q0, q1⟩ := hS.2.1.two; obtain ⟨q2, q3⟩ := hS.2.2.1.two
    go_simp
    exact hK.out _ _ _ rfl rfl rfl (Below.refl _ _)
  simp only [zD, zE, zF]
  refine obs_step (Eq.trans (by simp only [zA, zB, zC]; exact rfl) rfl) rfl (fun w' hS hV K hK => ?_) ?_
  · have e19 : x 19 = (.bool false) := hV 19 (by decide)
    have e22 : x 22 = (.agg #[.int .i64 P, .slice A r c]) := hV 22 (by decide)
    have q9 := hS.1; obtain ⟨q0, q1⟩ := hS.2.1.two; obtain ⟨q2, q3⟩ := hS.2.2.1.two
    go_simp
    refine (dim_any _ _ _ _ _).mono ?_
    rintro e v1 ⟨rfl, hb⟩
    exact hK.out _ _ _ rfl rfl rfl hb
  simp only [zD, zE, zF]
  refine obs_step (Eq.trans (by simp only [zA, zB, zC]; exact rfl) rfl) rfl (fun w' hS hV K hK => ?_) ?_
  · have e19 : x 19 = (.bool false) := hV 19 (by decide)
    have e21 : x 21 = (.int .i64 (r)) := hV 21 (by decide)
    have e23 : x 23 = (.int .i64 (r)) := hV 23 (by decide)
    have q9 := hS.1; obtain ⟨q0, q1⟩ := hS.2.1.two; obtain ⟨q2, q3⟩ := hS.2.2.1.two
    go_simp
    exact hK.out _ _ _ rfl rfl rfl (Below.refl _ _)
  simp only [zD, zE, zF]
  refine obs_step (Eq.trans (by simp only [zA, zB, zC]; exact rfl) rfl) rfl (fun w' hS hV K hK => ?_) ?_
  · have e19 : x 19 = (.bool false) := hV 19 (by decide)
    have e24 : x 24 = (.bool false) := hV 24 (by decide)
    have q9 := hS.1; obtain ⟨q0, q1⟩ := hS.2.1.two; obtain ⟨q2, q3⟩ := hS.2.2.1.two
    go_simp
    exact hK.out _ _ _ rfl rfl rfl (Below.refl _ _)
  simp only [zD, zE, zF]
  refine obs_step (Eq.trans (by simp only [zA, zB, zC]; exact rfl) rfl) rfl (fun w' hS hV K hK => ?_) ?_
  · have e25 : x 25 = (.bool false) := hV 25 (by decide)
    have q9 := hS.1; obtain ⟨q0, q1⟩ := hS.2.1.two; obtain ⟨q2, q3⟩ := hS.2.2.1.two
    go_simp
    exact hK.out _ _ _ rfl rfl rfl (Below.refl _ _)
  simp only [zD, zE, zF]
  refine obs_step (Eq.trans (by simp only [zA, zB, zC]; exact rfl) rfl) rfl (fun w' hS hV K hK => ?_) ?_
  · have e26 : x 26 = (.bool false) := hV 26 (by decide)
    have q9 := hS.1; obtain ⟨q0, q1⟩ := hS.2.1.two; obtain ⟨q2, q3⟩ := hS.2.2.1.two
    go_simp
    exact hK.out _ _ _ rfl rfl rfl (Below.refl _ _)
  simp only [zD, zE, zF]
  refine obs_step (Eq.trans (by simp only [zA, zB, zC]; exact rfl) rfl) rfl (fun w' hS hV K hK => ?_) ?_
  · have e26 : x 26 = (.bool false) := hV 26 (by decide)
    have e27 : x 27 = (.slice (some ⟨g, o, none⟩) r d) := hV 27 (by decide)
    have q9 := hS.1; obtain ⟨q0, q1⟩ := hS.2.1.two; obtain ⟨q2, q3⟩ := hS.2.2.1.two
    go_simp
    exact hK.out _ _ _ rfl rfl rfl (Below.refl _ _)
  simp only [zD, zE, zF]
  refine obs_step (Eq.trans (by simp only [zA, zB, zC]; exact rfl) rfl) rfl (fun w' hS hV K hK => ?_) ?_
  · have e26 : x 26 = (.bool false) := hV 26 (by decide)
    have e28 : x 28 = (.pointer (some ⟨g, o, none⟩)) := hV 28 (by decide)
    have q9 := hS.1; obtain ⟨q0, q1⟩ := hS.2.1.two; obtain ⟨q2, q3⟩ := hS.2.2.1.two
    go_simp
    exact hK.out _ _ _ rfl rfl rfl (Below.refl _ _)
  simp only [zD, zE, zF]
  refine obs_step (Eq.trans (by simp only [zA, zB, zC]; exact rfl) rfl) rfl (fun w' hS hV K hK => ?_) ?_
  · have e26 : x 26 = (.bool false) := hV 26 (by decide)
    have e29 : x 29 = (.slice A0 m c0) := hV 29 (by decide)
    have q9 := hS.1; obtain ⟨q0, q1⟩ := hS.2.1.two; obtain ⟨q2, q3⟩ := hS.2.2.1.two
    go_simp
    exact hK.out _ _ _ rfl rfl rfl (Below.refl _ _)
  simp only [zD, zE, zF]
  refine obs_step (Eq.trans (by simp only [zA, zB, zC]; exact rfl) rfl) rfl (fun w' hS hV K hK => ?_) ?_
  · have e26 : x 26 = (.bool false) := hV 26 (by decide)
    have q9 := hS.1; obtain ⟨q0, q1⟩ := hS.2.1.two; obtain ⟨q2, q3⟩ := hS.2.2.1.two
    go_simp
    exact hK.out _ _ _ rfl rfl rfl (Below.refl _ _)
  simp only [zD, zE, zF]
  refine obs_step (Eq.trans (by simp only [zA, zB, zC]; exact rfl) rfl) rfl (fun w' hS hV K hK => ?_) ?_
  · have e26 : x 26 = (.bool false) := hV 26 (by decide)
    have e31 : x 31 = (.agg #[.int .i64 P, .slice A r c]) := hV 31 (by decide)
    have q9 := hS.1; obtain ⟨q0, q1⟩ := hS.2.1.two; obtain ⟨q2, q3⟩ := hS.2.2.1.two
    go_simp
    refine (dim_any _ _ _ _ _).mono ?_
    rintro e v1 ⟨rfl, hb⟩
    exact hK.out _ _ _ rfl rfl rfl hb
  simp only [zD, zE, zF]
  refine obs_step (Eq.trans (by simp only [zA, zB, zC]; exact rfl) rfl) rfl (fun w' hS hV K hK => ?_) ?_
  · have e26 : x 26 = (.bool false) := hV 26 (by decide)
    have e30 : x 30 = (.int .i64 (m)) := hV 30 (by decide)
    have e32 : x 32 = (.int .i64 (r)) := hV 32 (by decide)
    have q9 := hS.1; obtain ⟨q0, q1⟩ := hS.2.1.two; obtain ⟨q2, q3⟩ := hS.2.2.1.two
    go_simp
    exact hK.out _ _ _ rfl rfl rfl (Below.refl _ _)
  simp only [zD, zE, zF]
  refine obs_step (Eq.trans (by simp only [zA, zB, zC]; exact rfl) rfl) rfl (fun w' hS hV K hK => ?_) ?_
  · have e26 : x 26 = (.bool false) := hV 26 (by decide)
    have e33 : x 33 = (.bool true) := hV 33 (by decide)
    have q9 := hS.1; obtain ⟨q0, q1⟩ := hS.2.1.two; obtain ⟨q2, q3⟩ := hS.2.2.1.two
    go_simp
    exact hK.out _ _ _ rfl rfl rfl (Below.refl _ _)
  simp only [zD, zE, zF]
  refine obs_step (Eq.trans (by simp only [zA, zB, zC]; exact rfl) rfl) rfl (fun w' hS hV K hK => ?_) ?_
  · have e34 : x 34 = (.bool true) := hV 34 (by decide)
    have q9 := hS.1; obtain ⟨q0, q1⟩ := hS.2.1.two; obtain ⟨q2, q3⟩ := hS.2.2.1.two
    go_simp
    exact hK.out _ _ _ rfl rfl rfl (Below.refl _ _)
  simp only [zD, zE, zF]
  refine obs_step (Eq.trans (by simp only [zA, zB, zC]; exact rfl) rfl) rfl (fun w' hS hV K hK => ?_) ?_
  · have e35 : x 35 = (.bool true) := hV 35 (by decide)
    have q9 := hS.1; obtain ⟨q0, q1⟩ := hS.2.1.two; obtain ⟨q2, q3⟩ := hS.2.2.1.two
    go_simp
    exact hK.out _ _ _ rfl rfl rfl (Below.refl _ _)
  simp only [zD, zE, zF]
  refine obs_step (Eq.trans (by simp only [zA, zB, zC]; exact rfl) rfl) rfl (fun w' hS hV K hK => ?_) ?_
  · have e35 : x 35 = (.bool true) := hV 35 (by decide)
    have e36 : x 36 = undef := hV 36 (by decide)
    have q9 := hS.1; obtain ⟨q0, q1⟩ := hS.2.1.two; obtain ⟨q2, q3⟩ := hS.2.2.1.two
    go_simp
    exact hK.out _ _ _ rfl rfl rfl (Below.refl _ _)
  simp only [zD, zE, zF]
  refine obs_step (Eq.trans (by simp only [zA, zB, zC]; exact rfl) rfl) rfl (fun w' hS hV K hK => ?_) ?_
  · have e35 : x 35 = (.bool true) := hV 35 (by decide)
    have q9 := hS.1; obtain ⟨q0, q1⟩ := hS.2.1.two; obtain ⟨q2, q3⟩ := hS.2.2.1.two
    go_simp
    exact hK.out _ _ _ rfl rfl rfl (Below.refl _ _)
  simp only [zD, zE, zF]
  refine obs_step (Eq.trans (by simp only [zA, zB, zC]; exact rfl) rfl) rfl (fun w' hS hV K hK => ?_) ?_
  · have e35 : x 35 = (.bool true) := hV 35 (by decide)
    have e37 : x 37 = undef := hV 37 (by decide)
    have e38 : x 38 = undef := hV 38 (by decide)
    have q9 := hS.1; obtain ⟨q0, q1⟩ := hS.2.1.two; obtain ⟨q2, q3⟩ := hS.2.2.1.two
    go_simp
    exact hK.out _ _ _ rfl rfl rfl (Below.refl _ _)
  simp only [zD, zE, zF]
  refine obs_step (Eq.trans (by simp only [zA, zB, zC]; exact rfl) rfl) rfl (fun w' hS hV K hK => ?_) ?_
  · have e35 : x 35 = (.bool true) := hV 35 (by decide)
    have e39 : x 39 = undef := hV 39 (by decide)
    have q9 := hS.1; obtain ⟨q0, q1⟩ := hS.2.1.two; obtain ⟨q2, q3⟩ := hS.2.2.1.two
    go_simp
    exact hK.out _ _ _ rfl rfl rfl (Below.refl _ _)
  simp only [zD, zE, zF]
  refine obs_step (Eq.trans (by simp only [zA, zB, zC]; exact rfl) rfl) rfl (fun w' hS hV K hK => ?_) ?_
  · have e35 : x 35 = (.bool true) := hV 35 (by decide)
    have e40 : x 40 = undef := hV 40 (by decide)
    have q9 := hS.1; obtain ⟨q0, q1⟩ := hS.2.1.two; obtain ⟨q2, q3⟩ := hS.2.2.1.two
    go_simp
    exact hK.out _ _ _ rfl rfl rfl (Below.refl _ _)
  simp only [zD, zE, zF]
  refine fun w' hS hV => ?_
  have e0 : x 0 = (.pointer (some ⟨w.heap.size, 0, none⟩)) := hV 0 (by decide)
  have e1 : x 1 = (.int .i64 (P)) := hV 1 (by decide)
  have e2 : x 2 = (.pointer (some ⟨w.heap.size + 1, 0, none⟩)) := hV 2 (by decide)
  have e3 : x 3 = (.int .i64 (P)) := hV 3 (by decide)
  have e4 : x 4 = (.bool false) := hV 4 (by decide)
  have e5 : x 5 = (.bool false) := hV 5 (by decide)
  have e6 : x 6 = (.agg #[.int .i64 P, .slice A r c]) := hV 6 (by decide)
  have e7 : x 7 = (.int .i64 (r)) := hV 7 (by decide)
  have e8 : x 8 = (.agg #[.int .i64 P, .slice A r c]) := hV 8 (by decide)
  have e9 : x 9 = (.int .i64 (r)) := hV 9 (by decide)
  have e10 : x 10 = (.bool false) := hV 10 (by decide)
  have e11 : x 11 = (.bool false) := hV 11 (by decide)
  have e12 : x 12 = (.bool false) := hV 12 (by decide)
  have e13 : x 13 = (.agg #[.int .i64 P, .slice A r c]) := hV 13 (by decide)
  have e14 : x 14 = (.int .i64 (P)) := hV 14 (by decide)
  have e15 : x 15 = (.slice (some ⟨g, o, none⟩) r d) := hV 15 (by decide)
  have e16 : x 16 = (.bool true) := hV 16 (by decide)
  have e17 : x 17 = (.bool false) := hV 17 (by decide)
  have e18 : x 18 = (.bool false) := hV 18 (by decide)
  have e19 : x 19 = (.bool false) := hV 19 (by decide)
  have e20 : x 20 = (.slice (some ⟨g, o, none⟩) r d) := hV 20 (by decide)
  have e21 : x 21 = (.int .i64 (r)) := hV 21 (by decide)
  have e22 : x 22 = (.agg #[.int .i64 P, .slice A r c]) := hV 22 (by decide)
  have e23 : x 23 = (.int .i64 (r)) := hV 23 (by decide)
  have e24 : x 24 = (.bool false) := hV 24 (by decide)
  have e25 : x 25 = (.bool false) := hV 25 (by decide)
  have e26 : x 26 = (.bool false) := hV 26 (by decide)
  have e27 : x 27 = (.slice (some ⟨g, o, none⟩) r d) := hV 27 (by decide)
  have e28 : x 28 = (.pointer (some ⟨g, o, none⟩)) := hV 28 (by decide)
  have e29 : x 29 = (.slice A0 m c0) := hV 29 (by decide)
  have e30 : x 30 = (.int .i64 (m)) := hV 30 (by decide)
  have e31 : x 31 = (.agg #[.int .i64 P, .slice A r c]) := hV 31 (by decide)
  have e32 : x 32 = (.int .i64 (r)) := hV 32 (by decide)
  have e33 : x 33 = (.bool true) := hV 33 (by decide)
  have e34 : x 34 = (.bool true) := hV 34 (by decide)
  have e35 : x 35 = (.bool true) := hV 35 (by decide)
  have e36 : x 36 = undef := hV 36 (by decide)
  have e37 : x 37 = undef := hV 37 (by decide)
  have e38 : x 38 = undef := hV 38 (by decide)
  have e39 : x 39 = undef := hV 39 (by decide)
  have e40 : x 40 = undef := hV 40 (by decide)
  have e41 : x 41 = (.bool true) := hV 41 (by decide)
  simp only [e0, e1, e2, e3, e4, e5, e6, e7, e8, e9, e10, e11, e12, e13, e14, e15, e16, e17, e18, e19, e20, e21, e22, e23, e24, e25, e26, e27, e28, e29, e30, e31, e32, e33, e34, e35, e36, e37, e38, e39, e40, e41]
  clear e0 e1 e2 e3 e4 e5 e6 e7 e8 e9 e10 e11 e12 e13 e14 e15 e16 e17 e18 e19 e20 e21 e22 e23 e24 e25 e26 e27 e28 e29 e30 e31 e32 e33 e34 e35 e36 e37 e38 e39 e40 e41
  refine wpAny_done (by kernel_rfl) ?_ _
  have hb9 := hS.2.2.2
  go_wp2
  go_ret
  exact ⟨rfl, hb9⟩
end Go.Proofs.YtdbibmilicjllaaGreat
