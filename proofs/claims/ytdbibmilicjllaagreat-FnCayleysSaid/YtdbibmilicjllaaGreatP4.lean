/-
  LawFnCayleys: part 4 of the texts that the proof needs. No condition.
-/
import Derived.Test.YtdbibmilicjllaaGreatP3
namespace Go.Proofs.YtdbibmilicjllaaGreat
open Go.RowKit
theorem brkL_nums {P : Int} (hp : 2 ≤ P) (sq : List Int) (n : Nat) (xs ys : List Int) : NumsL P (brkL P sq n xs ys) := plusL_nums (by omega) _ _ _
theorem brkL_eq {P : Int} {sq : List Int} {n : Nat} {xs ys : List Int} (hx : xs.length = pw n) (hxs : NumsL P xs) (hy : ys.length = pw n) (hys : NumsL P ys) : plusL P (mulL P sq xs ys) (mulL P sq ys xs) (P - 1) = brkL P sq n xs ys := by
  unfold brkL
  rw [timesL_two P sq n _ _ hx hxs, timesL_two P sq n _ _ hy hys]
  exact plusL_mod P _ _ (by rw [show P - 1 = -1 + P by omega, Int.add_emod_right])
set_option maxHeartbeats 1600000 in
set_option maxRecDepth 8000 in
theorem l04Bracket_any (P : Int) (A : Option Addr) (n c : Nat) (sq : List Int) (X : Option Addr) (cx : Nat) (xs : List Int) (Y : Option Addr) (cy : Nat) (ys : List Int) (w : World) (hp : 2 ≤ P) (hp2 : P ≤ 13) (hn : n ≤ 6) (ha : Rd w A n (ints sq)) (hs : NumsL P sq) (hx : Rd w X (pw n) (ints xs)) (hxs : NumsL P xs) (hy : Rd w Y (pw n) (ints ys)) (hys : NumsL P ys) :
    Calls Tryz.prog 247 #[.agg #[.int .i64 P, .slice A n c], .slice X (pw n) cx, .slice Y (pw n) cy] w fun e w' => ∃ A' c', e = .returned (.slice A' (pw n) c') ∧ MkI w w' A' (pw n) c' (brkL P sq n xs ys) := by
  have hB0 : Below w.heap.size w (w.alloc (.cells #[.int .i64 P, .slice A n c] 26)) := (Below.refl _ _).alloc (Nat.le_refl _) _
  have k0 : Blk (w.alloc (.cells #[.int .i64 P, .slice A n c] 26)) w.heap.size 26 #[.int .i64 P, .slice A n c] := Blk.new _ _ _
  have HPW : pw n ≤ 65536 := Nat.le_trans (pw_le (show n ≤ 10 by omega)) (by decide)
  have HPW64 : pw n ≤ 64 := pw_le hn
  have W1 := i64_fit (P - 1) (by omega) (by omega)
  go_enter Tryz.func247, Tryz.ntmps247
  go_wp2
  refine wp_obs 15 [[], [0], [], [], [], [2, 3, 4], [], [], [], [6, 7, 8], [], [10], [10, 11], [0, 1, 2, 3, 4, 5, 6, 7, 8, 9, 10, 11, 12], [0, 1, 2, 3, 4, 5, 6, 7, 8, 9, 10, 11, 12, 13]] [VIs (.pointer (some ⟨w.heap.size, 0, none⟩)), VIs (.int .i64 P), VIs (.agg #[.int .i64 P, .slice A n c]), VIs (.slice X (pw n) cx), VIs (.slice Y (pw n) cy), VSl w (pw n) (mulL P sq xs ys), VIs (.agg #[.int .i64 P, .slice A n c]), VIs (.slice Y (pw n) cy), VIs (.slice X (pw n) cx), VSl w (pw n) (mulL P sq ys xs), VIs (.pointer (some ⟨w.heap.size, 0, none⟩)), VIs (.int .i64 P), VIs (.int .i64 (P - 1)), VSl w (pw n) (plusL P (mulL P sq xs ys) (mulL P sq ys xs) (P - 1)), VSl w (pw n) (plusL P (mulL P sq xs ys) (mulL P sq ys xs) (P - 1))] (fun w' => Blk w' w.heap.size 26 #[.int .i64 P, .slice A n c] ∧ Below w.heap.size w w') (by kernel_rfl) (by kernel_rfl) (fun _ _ h hb => ⟨h.1.below hb h.1.lt, h.2.trans (hb.mono h.2.size)⟩) (⟨k0.drew, hB0.drew⟩) (fun x => ?_)
  refine obs_step (Eq.trans (by simp only [zA, zC]; exact rfl) rfl) rfl (fun w' hS hV K hK => ?_) ?_
  · obtain ⟨q0, q1⟩ := hS.1.two
    go_simp
    exact hK.out _ _ _ rfl rfl rfl (Below.refl _ _)
  simp only [zD, zE, zF]
  refine obs_step (Eq.trans (by simp only [zA, zB, zC]; exact rfl) rfl) rfl (fun w' hS hV K hK => ?_) ?_
  · have e0 : x 0 = (.pointer (some ⟨w.heap.size, 0, none⟩)) := hV 0 (by decide)
    obtain ⟨q0, q1⟩ := hS.1.two
    go_simp
    exact hK.out _ _ _ rfl rfl rfl (Below.refl _ _)
  simp only [zD, zE, zF]
  refine obs_step (Eq.trans (by simp only [zA, zB, zC]; exact rfl) rfl) rfl (fun w' hS hV K hK => ?_) ?_
  · obtain ⟨q0, q1⟩ := hS.1.two
    go_simp
    exact hK.out _ _ _ rfl rfl rfl (Below.refl _ _)
  simp only [zD, zE, zF]
  refine obs_step (Eq.trans (by simp only [zA, zB, zC]; exact rfl) rfl) rfl (fun w' hS hV K hK => ?_) ?_
  · obtain ⟨q0, q1⟩ := hS.1.two
    go_simp
    exact hK.out _ _ _ rfl rfl rfl (Below.refl _ _)
  simp only [zD, zE, zF]
  refine obs_step (Eq.trans (by simp only [zA, zB, zC]; exact rfl) rfl) rfl (fun w' hS hV K hK => ?_) ?_
  · obtain ⟨q0, q1⟩ := hS.1.two
    go_simp
    exact hK.out _ _ _ rfl rfl rfl (Below.refl _ _)
  simp only [zD, zE, zF]
  refine obs_step (Eq.trans (by simp only [zA, zB, zC]; exact rfl) rfl) rfl (fun w' hS hV K hK => ?_) ?_
  · have e2 : x 2 = (.agg #[.int .i64 P, .slice A n c]) := hV 2 (by decide)
    have e3 : x 3 = (.slice X (pw n) cx) := hV 3 (by decide)
    have e4 : x 4 = (.slice Y (pw n) cy) := hV 4 (by decide)
    obtain ⟨q0, q1⟩ := hS.1.two
    go_simp
    refine (l04Times_any P A n c sq _ _ xs _ _ ys _ hp hp2 hn (ha.below hS.2) hs (hx.below hS.2) hxs (hy.below hS.2) hys).mono ?_
    rintro e w1 ⟨A2, c2, rfl, hM⟩
    exact hK.out _ _ _ rfl rfl ⟨_, _, rfl, hM.after hS.2⟩ hM.b
  simp only [zD, zE, zF]
  refine obs_step (Eq.trans (by simp only [zA, zB, zC]; exact rfl) rfl) rfl (fun w' hS hV K hK => ?_) ?_
  · obtain ⟨q0, q1⟩ := hS.1.two
    go_simp
    exact hK.out _ _ _ rfl rfl rfl (Below.refl _ _)
  simp only [zD, zE, zF]
  refine obs_step (Eq.trans (by simp only [zA, zB, zC]; exact rfl) rfl) rfl (fun w' hS hV K hK => ?_) ?_
  · obtain ⟨q0, q1⟩ := hS.1.two
    go_simp
    exact hK.out _ _ _ rfl rfl rfl (Below.refl _ _)
  simp only [zD, zE, zF]
  refine obs_step (Eq.trans (by simp only [zA, zB, zC]; exact rfl) rfl) rfl (fun w' hS hV K hK => ?_) ?_
  · obtain ⟨q0, q1⟩ := hS.1.two
    go_simp
    exact hK.out _ _ _ rfl rfl rfl (Below.refl _ _)
  simp only [zD, zE, zF]
  refine obs_step (Eq.trans (by simp only [zA, zB, zC]; exact rfl) rfl) rfl (fun w' hS hV K hK => ?_) ?_
  · have e6 : x 6 = (.agg #[.int .i64 P, .slice A n c]) := hV 6 (by decide)
    have e7 : x 7 = (.slice Y (pw n) cy) := hV 7 (by decide)
    have e8 : x 8 = (.slice X (pw n) cx) := hV 8 (by decide)
    obtain ⟨q0, q1⟩ := hS.1.two
    go_simp
    refine (l04Times_any P A n c sq _ _ ys _ _ xs _ hp hp2 hn (ha.below hS.2) hs (hy.below hS.2) hys (hx.below hS.2) hxs).mono ?_
    rintro e w1 ⟨A2, c2, rfl, hM⟩
    exact hK.out _ _ _ rfl rfl ⟨_, _, rfl, hM.after hS.2⟩ hM.b
  simp only [zD, zE, zF]
  refine obs_step (Eq.trans (by simp only [zA, zB, zC]; exact rfl) rfl) rfl (fun w' hS hV K hK => ?_) ?_
  · obtain ⟨q0, q1⟩ := hS.1.two
    go_simp
    exact hK.out _ _ _ rfl rfl rfl (Below.refl _ _)
  simp only [zD, zE, zF]
  refine obs_step (Eq.trans (by simp only [zA, zB, zC]; exact rfl) rfl) rfl (fun w' hS hV K hK => ?_) ?_
  · have e10 : x 10 = (.pointer (some ⟨w.heap.size, 0, none⟩)) := hV 10 (by decide)
    obtain ⟨q0, q1⟩ := hS.1.two
    go_simp
    exact hK.out _ _ _ rfl rfl rfl (Below.refl _ _)
  simp only [zD, zE, zF]
  refine obs_step (Eq.trans (by simp only [zA, zB, zC]; exact rfl) rfl) rfl (fun w' hS hV K hK => ?_) ?_
  · have e11 : x 11 = (.int .i64 P) := hV 11 (by decide)
    obtain ⟨q0, q1⟩ := hS.1.two
    go_simp
    exact hK.out _ _ _ rfl rfl rfl (Below.refl _ _)
  simp only [zD, zE, zF]
  refine obs_step (Eq.trans (by simp only [zA, zB, zC]; exact rfl) rfl) rfl (fun w' hS hV K hK => ?_) ?_
  · have e1 : x 1 = (.int .i64 P) := hV 1 (by decide)
    obtain ⟨A5, c5, e5, h5⟩ := hV 5 (by decide)
    obtain ⟨A9, c9, e9, h9⟩ := hV 9 (by decide)
    have e12 : x 12 = (.int .i64 (P - 1)) := hV 12 (by decide)
    obtain ⟨q0, q1⟩ := hS.1.two
    go_simp
    refine (l02Plus_any P _ (pw n) _ _ (pw n) _ (P - 1) (mulL P sq xs ys) (mulL P sq ys xs) _ hp hp2 HPW (Nat.le_refl _) h5.rd (mulL_nums (by omega) sq xs ys) h9.rd (mulL_nums (by omega) sq ys xs) (by omega) (by omega)).mono ?_
    rintro e w1 ⟨A2, c2, rfl, hM⟩
    exact hK.out _ _ _ rfl rfl ⟨_, _, rfl, hM.after hS.2⟩ hM.b
  simp only [zD, zE, zF]
  refine obs_step (Eq.trans (by simp only [zA, zB, zC]; exact rfl) rfl) rfl (fun w' hS hV K hK => ?_) ?_
  · obtain ⟨A5, c5, e5, h5⟩ := hV 5 (by decide)
    obtain ⟨A9, c9, e9, h9⟩ := hV 9 (by decide)
    obtain ⟨A13, c13, e13, h13⟩ := hV 13 (by decide)
    obtain ⟨q0, q1⟩ := hS.1.two
    go_simp
    exact hK.out _ _ _ rfl rfl ⟨_, _, rfl, h13⟩ (Below.refl _ _)
  simp only [zD, zE, zF]
  refine fun w' hS hV => ?_
  have e0 : x 0 = (.pointer (some ⟨w.heap.size, 0, none⟩)) := hV 0 (by decide)
  have e1 : x 1 = (.int .i64 P) := hV 1 (by decide)
  have e2 : x 2 = (.agg #[.int .i64 P, .slice A n c]) := hV 2 (by decide)
  have e3 : x 3 = (.slice X (pw n) cx) := hV 3 (by decide)
  have e4 : x 4 = (.slice Y (pw n) cy) := hV 4 (by decide)
  obtain ⟨A5, c5, e5, h5⟩ := hV 5 (by decide)
  have e6 : x 6 = (.agg #[.int .i64 P, .slice A n c]) := hV 6 (by decide)
  have e7 : x 7 = (.slice Y (pw n) cy) := hV 7 (by decide)
  have e8 : x 8 = (.slice X (pw n) cx) := hV 8 (by decide)
  obtain ⟨A9, c9, e9, h9⟩ := hV 9 (by decide)
  have e10 : x 10 = (.pointer (some ⟨w.heap.size, 0, none⟩)) := hV 10 (by decide)
  have e11 : x 11 = (.int .i64 P) := hV 11 (by decide)
  have e12 : x 12 = (.int .i64 (P - 1)) := hV 12 (by decide)
  obtain ⟨A13, c13, e13, h13⟩ := hV 13 (by decide)
  obtain ⟨A14, c14, e14, h14⟩ := hV 14 (by decide)
  simp only [e0, e1, e2, e3, e4, e5, e6, e7, e8, e9, e10, e11, e12, e13, e14]
  clear e0 e1 e2 e3 e4 e5 e6 e7 e8 e9 e10 e11 e12 e13 e14
  refine wpAny_done (by kernel_rfl) ?_ _
  go_wp2
  go_ret
  exact ⟨_, _, rfl, by rw [← brkL_eq hx.lenI hxs hy.lenI hys]; exact h14⟩
end Go.Proofs.YtdbibmilicjllaaGreat
namespace Go.Proofs.YtdbibmilicjllaaGreat
open Go.RowKit
/-- What a bivector does to a vector. -/
def turnL (P : Int) (sq : List Int) (n : Nat) (xs v : List Int) : List Int := scaleL P (partL n (brkL P sq n xs (vecTo n v n))) (invF P 2)
theorem turnL_len (P : Int) (sq : List Int) (n : Nat) (xs v : List Int) : (turnL P sq n xs v).length = n := by unfold turnL; rw [scaleL_len, partL_len]
theorem turnL_nums {P : Int} (hp : 2 ≤ P) (sq : List Int) (n : Nat) (xs v : List Int) : NumsL P (turnL P sq n xs v) := scaleL_nums (by omega) _ _
set_option maxHeartbeats 800000 in
set_option maxRecDepth 8000 in
theorem apply_any (p : Int) (A : Option Addr) (n c : Nat) (M : List (List Int)) (B : Option Addr) (m d : Nat) (v : List Int) (w : World) (hp : 2 ≤ p) (hp2 : p ≤ 13) (hn : n ≤ 65536) (hm : m ≤ 65536) (ha : RdII w A n M) (hM : Tab p m M) (hb : Rd w B m (ints v)) (hv : NumsL p v) :
    Calls Tryz.prog 184 #[.int .i64 p, .slice A n c, .slice B m d] w fun e w' => ∃ A' c', e = .returned (.slice A' n c') ∧ MkI w w' A' n c' (applyL p M v) := by
  have HL := Lib.hid ha.len
  have HT := Lib.hid hM
  have hM0 := Mk.lit (E := 2) (Below.refl w.heap.size w) #[] (by simp)
  clear hM
  go_enter Tryz.func184, Tryz.ntmps184
  go_wp2
  go_loopw [7, 9, 13] (fun out _ i wr => ∃ (j : Nat) (A' : Option Addr) (c' : Nat), j ≤ n ∧ i = .int .i64 j ∧ out = .slice A' j c' ∧ MkI w wr A' j c' (tab j fun i => dotL p (M.getD i []) v)) (fun _ _ i _ => n - (intOf i).toNat)
  case atStart => exact ⟨0, _, _, by omega, rfl, rfl, by simpa [MkI, ints, tab] using hM0⟩
  case round =>
    obtain ⟨j, A', c', hj, rfl, rfl, hM⟩ := hrel
    clear hM0
    by_cases hlt : j < n
    · obtain ⟨g, o, rfl, hxj, A1, c1, hcx, hr1, _⟩ := (ha.below hM.b).at_ hlt
      have HRow := Lib.hid (HT.out M[j] (List.getElem_mem hxj))
      have hle : M[j].length ≤ m := by rw [HRow.out.1]; exact Nat.le_refl _
      have hle2 : M[j].length ≤ 65536 := by omega
      have HV : Hid ((tab (j + 1) fun i => dotL p (M.getD i []) v) = (tab j fun i => dotL p (M.getD i []) v) ++ [dotL p M[j] v]) := Lib.hid (by rw [tab_succ, getD_of_lt [] hxj])
      have hdot := fun w' (hb' : Below wr.heap.size wr w') => dot_any p A1 M[j].length c1 B m d M[j] v w' hp hp2 hle2 hle (hr1.below hb') HRow.out.2 (hb.below (hM.b.trans (hb'.mono hM.b.size))) hv
      have HM := Lib.hid hM
      clear ha hM
      go_wp2_with (first
        | (go_at_call 295; refine (hdot _ (Below.refl _ _)).mono ?_; rintro e w' ⟨rfl, rfl⟩)
        | (at_builtin; refine wpList_app1 w _ 24 2 _ _ Tryz.underlying24 info_i rfl (by omega) rfl _ _ rfl A' j c' _ _ HM.out (by omega) rfl rfl rfl ?_; intro A2 c2 w2 hM2 _ _))
      go_roundw
      case rel => exact ⟨j + 1, A2, c2, by omega, by go_num, rfl, by rw [HV.out]; simpa [MkI, ints] using hM2⟩
      case measure => simp [intOf]; omega
    · go_wp2
      go_ret
      obtain rfl : j = n := by omega
      exact ⟨_, _, rfl, by unfold applyL; rw [HL.out]; exact hM⟩
set_option maxHeartbeats 1600000 in
set_option maxRecDepth 8000 in
theorem l10Turn_any (P : Int) (A : Option Addr) (n c : Nat) (sq : List Int) (X : Option Addr) (cx : Nat) (xs : List Int) (Y : Option Addr) (cy : Nat) (v : List Int) (w : World) (hp : 2 ≤ P) (hp2 : P ≤ 13) (hn : n ≤ 6) (ha : Rd w A n (ints sq)) (hs : NumsL P sq) (hx : Rd w X (pw n) (ints xs)) (hxs : NumsL P xs) (hy : Rd w Y n (ints v)) (hys : NumsL P v) (HP : isP P = true) :
    Calls Tryz.prog 429 #[.agg #[.int .i64 P, .slice A n c], .slice X (pw n) cx, .slice Y n cy] w fun e w' => ∃ A' c', e = .returned (.slice A' (n) c') ∧ MkI w w' A' (n) c' (turnL P sq n xs v) := by
  have hB0 : Below w.heap.size w (w.alloc (.cells #[.int .i64 P, .slice A n c] 26)) := (Below.refl _ _).alloc (Nat.le_refl _) _
  have k0 : Blk (w.alloc (.cells #[.int .i64 P, .slice A n c] 26)) w.heap.size 26 #[.int .i64 P, .slice A n c] := Blk.new _ _ _
  have HPW : pw n ≤ 65536 := Nat.le_trans (pw_le (show n ≤ 10 by omega)) (by decide)
  have HPW64 : pw n ≤ 64 := pw_le hn
  have hp3 := (isP_ge HP).1
  go_enter Tryz.func429, Tryz.ntmps429
  go_wp2
  refine wp_obs 15 [[], [0], [], [], [], [], [], [5, 6], [3, 4, 5, 6, 7], [2, 3, 4, 5, 6, 7, 8], [], [10], [10, 11], [0, 1, 2, 3, 4, 5, 6, 7, 8, 9, 10, 11, 12], [0, 1, 2, 3, 4, 5, 6, 7, 8, 9, 10, 11, 12, 13]] [VIs (.pointer (some ⟨w.heap.size, 0, none⟩)), VIs (.int .i64 P), VIs (.agg #[.int .i64 P, .slice A n c]), VIs (.agg #[.int .i64 P, .slice A n c]), VIs (.slice X (pw n) cx), VIs (.agg #[.int .i64 P, .slice A n c]), VIs (.slice Y n cy), VSl w (pw n) (vecTo n v n), VSl w (pw n) (brkL P sq n xs (vecTo n v n)), VSl w (n) (partL n (brkL P sq n xs (vecTo n v n))), VIs (.pointer (some ⟨w.heap.size, 0, none⟩)), VIs (.int .i64 P), VIs (.int .i64 (invF P 2)), VSl w (n) (scaleL P (partL n (brkL P sq n xs (vecTo n v n))) (invF P 2)), VSl w (n) (scaleL P (partL n (brkL P sq n xs (vecTo n v n))) (invF P 2))] (fun w' => Blk w' w.heap.size 26 #[.int .i64 P, .slice A n c] ∧ Below w.heap.size w w') (by kernel_rfl) (by kernel_rfl) (fun _ _ h hb => ⟨h.1.below hb h.1.lt, h.2.trans (hb.mono h.2.size)⟩) (⟨k0.drew, hB0.drew⟩) (fun x => ?_)
  refine obs_step (Eq.trans (by simp only [zA, zC]; exact rfl) rfl) rfl (fun w' hS hV K hK => ?_) ?_
  · obtain ⟨q0, q1⟩ := hS.1.two
    go_simp
    exact hK.out _ _ _ rfl rfl rfl (Below.refl _ _)
  simp only [zD, zE, zF]
  refine obs_step (Eq.trans (by simp only [zA, zB, zC]; exact rfl) rfl) rfl (fun w' hS hV K hK => ?_) ?_
  · have e0 : x 0 = (.pointer (some ⟨w.heap.size, 0, none⟩)) := hV 0 (by decide)
    obtain ⟨q0, q1⟩ := hS.1.two
    go_simp
    exact hK.out _ _ _ rfl rfl rfl (Below.refl _ _)
  simp only [zD, zE, zF]
  refine obs_step (Eq.trans (by simp only [zA, zB, zC]; exact rfl) rfl) rfl (fun w' hS hV K hK => ?_) ?_
  · obtain ⟨q0, q1⟩ := hS.1.two
    go_simp
    exact hK.out _ _ _ rfl rfl rfl (Below.refl _ _)
  simp only [zD, zE, zF]
  refine obs_step (Eq.trans (by simp only [zA, zB, zC]; exact rfl) rfl) rfl (fun w' hS hV K hK => ?_) ?_
  · obtain ⟨q0, q1⟩ := hS.1.two
    go_simp
    exact hK.out _ _ _ rfl rfl rfl (Below.refl _ _)
  simp only [zD, zE, zF]
  refine obs_step (Eq.trans (by simp only [zA, zB, zC]; exact rfl) rfl) rfl (fun w' hS hV K hK => ?_) ?_
  · obtain ⟨q0, q1⟩ := hS.1.two
    go_simp
    exact hK.out _ _ _ rfl rfl rfl (Below.refl _ _)
  simp only [zD, zE, zF]
  refine obs_step (Eq.trans (by simp only [zA, zB, zC]; exact rfl) rfl) rfl (fun w' hS hV K hK => ?_) ?_
  · obtain ⟨q0, q1⟩ := hS.1.two
    go_simp
    exact hK.out _ _ _ rfl rfl rfl (Below.refl _ _)
  simp only [zD, zE, zF]
  refine obs_step (Eq.trans (by simp only [zA, zB, zC]; exact rfl) rfl) rfl (fun w' hS hV K hK => ?_) ?_
  · obtain ⟨q0, q1⟩ := hS.1.two
    go_simp
    exact hK.out _ _ _ rfl rfl rfl (Below.refl _ _)
  simp only [zD, zE, zF]
  refine obs_step (Eq.trans (by simp only [zA, zB, zC]; exact rfl) rfl) rfl (fun w' hS hV K hK => ?_) ?_
  · have e5 : x 5 = (.agg #[.int .i64 P, .slice A n c]) := hV 5 (by decide)
    have e6 : x 6 = (.slice Y n cy) := hV 6 (by decide)
    obtain ⟨q0, q1⟩ := hS.1.two
    go_simp
    refine (l04Vector_any P A n c _ _ v _ (by omega) (hy.below hS.2)).mono ?_
    rintro e w1 ⟨A2, c2, rfl, hM⟩
    exact hK.out _ _ _ rfl rfl ⟨_, _, rfl, hM.after hS.2⟩ hM.b
  simp only [zD, zE, zF]
  refine obs_step (Eq.trans (by simp only [zA, zB, zC]; exact rfl) rfl) rfl (fun w' hS hV K hK => ?_) ?_
  · have e3 : x 3 = (.agg #[.int .i64 P, .slice A n c]) := hV 3 (by decide)
    have e4 : x 4 = (.slice X (pw n) cx) := hV 4 (by decide)
    obtain ⟨A7, c7, e7, h7⟩ := hV 7 (by decide)
    obtain ⟨q0, q1⟩ := hS.1.two
    go_simp
    refine (l04Bracket_any P A n c sq _ _ xs _ _ (vecTo n v n) _ hp hp2 hn (ha.below hS.2) hs (hx.below hS.2) hxs h7.rd (vecTo_nums (by omega) n v hys n)).mono ?_
    rintro e w1 ⟨A2, c2, rfl, hM⟩
    exact hK.out _ _ _ rfl rfl ⟨_, _, rfl, hM.after hS.2⟩ hM.b
  simp only [zD, zE, zF]
  refine obs_step (Eq.trans (by simp only [zA, zB, zC]; exact rfl) rfl) rfl (fun w' hS hV K hK => ?_) ?_
  · have e2 : x 2 = (.agg #[.int .i64 P, .slice A n c]) := hV 2 (by decide)
    obtain ⟨A7, c7, e7, h7⟩ := hV 7 (by decide)
    obtain ⟨A8, c8, e8, h8⟩ := hV 8 (by decide)
    obtain ⟨q0, q1⟩ := hS.1.two
    go_simp
    refine (l04List_any P A n c _ _ (brkL P sq n xs (vecTo n v n)) _ (by omega) h8.rd).mono ?_
    rintro e w1 ⟨A2, c2, rfl, hM⟩
    exact hK.out _ _ _ rfl rfl ⟨_, _, rfl, hM.after hS.2⟩ hM.b
  simp only [zD, zE, zF]
  refine obs_step (Eq.trans (by simp only [zA, zB, zC]; exact rfl) rfl) rfl (fun w' hS hV K hK => ?_) ?_
  · obtain ⟨q0, q1⟩ := hS.1.two
    go_simp
    exact hK.out _ _ _ rfl rfl rfl (Below.refl _ _)
  simp only [zD, zE, zF]
  refine obs_step (Eq.trans (by simp only [zA, zB, zC]; exact rfl) rfl) rfl (fun w' hS hV K hK => ?_) ?_
  · have e10 : x 10 = (.pointer (some ⟨w.heap.size, 0, none⟩)) := hV 10 (by decide)
    obtain ⟨q0, q1⟩ := hS.1.two
    go_simp
    exact hK.out _ _ _ rfl rfl rfl (Below.refl _ _)
  simp only [zD, zE, zF]
  refine obs_step (Eq.trans (by simp only [zA, zB, zC]; exact rfl) rfl) rfl (fun w' hS hV K hK => ?_) ?_
  · have e11 : x 11 = (.int .i64 P) := hV 11 (by decide)
    obtain ⟨q0, q1⟩ := hS.1.two
    go_simp
    refine (l01Inv_any P 2 _ HP (by omega) (show 0 ≤ (2 : Int) ∧ (2 : Int) < P from ⟨by omega, by omega⟩).2).mono ?_
    rintro e w1 ⟨rfl, rfl⟩
    exact hK.out _ _ _ rfl rfl rfl (Below.refl _ _)
  simp only [zD, zE, zF]
  refine obs_step (Eq.trans (by simp only [zA, zB, zC]; exact rfl) rfl) rfl (fun w' hS hV K hK => ?_) ?_
  · have e1 : x 1 = (.int .i64 P) := hV 1 (by decide)
    obtain ⟨A7, c7, e7, h7⟩ := hV 7 (by decide)
    obtain ⟨A8, c8, e8, h8⟩ := hV 8 (by decide)
    obtain ⟨A9, c9, e9, h9⟩ := hV 9 (by decide)
    have e12 : x 12 = (.int .i64 (invF P 2)) := hV 12 (by decide)
    obtain ⟨q0, q1⟩ := hS.1.two
    go_simp
    refine (l02Scale_any P _ (n) _ (invF P 2) (partL n (brkL P sq n xs (vecTo n v n))) _ hp hp2 (by omega) h9.rd (partL_nums (by omega) n (brkL P sq n xs (vecTo n v n)) (brkL_nums hp sq n xs (vecTo n v n))) (by have := (invF_small hp 2); omega) (by have := (invF_small hp 2); omega)).mono ?_
    rintro e w1 ⟨A2, c2, rfl, hM⟩
    exact hK.out _ _ _ rfl rfl ⟨_, _, rfl, hM.after hS.2⟩ hM.b
  simp only [zD, zE, zF]
  refine obs_step (Eq.trans (by simp only [zA, zB, zC]; exact rfl) rfl) rfl (fun w' hS hV K hK => ?_) ?_
  · obtain ⟨A7, c7, e7, h7⟩ := hV 7 (by decide)
    obtain ⟨A8, c8, e8, h8⟩ := hV 8 (by decide)
    obtain ⟨A9, c9, e9, h9⟩ := hV 9 (by decide)
    obtain ⟨A13, c13, e13, h13⟩ := hV 13 (by decide)
    obtain ⟨q0, q1⟩ := hS.1.two
    go_simp
    exact hK.out _ _ _ rfl rfl ⟨_, _, rfl, h13⟩ (Below.refl _ _)
  simp only [zD, zE, zF]
  refine fun w' hS hV => ?_
  have e0 : x 0 = (.pointer (some ⟨w.heap.size, 0, none⟩)) := hV 0 (by decide)
  have e1 : x 1 = (.int .i64 P) := hV 1 (by decide)
  have e2 : x 2 = (.agg #[.int .i64 P, .slice A n c]) := hV 2 (by decide)
  have e3 : x 3 = (.agg #[.int .i64 P, .slice A n c]) := hV 3 (by decide)
  have e4 : x 4 = (.slice X (pw n) cx) := hV 4 (by decide)
  have e5 : x 5 = (.agg #[.int .i64 P, .slice A n c]) := hV 5 (by decide)
  have e6 : x 6 = (.slice Y n cy) := hV 6 (by decide)
  obtain ⟨A7, c7, e7, h7⟩ := hV 7 (by decide)
  obtain ⟨A8, c8, e8, h8⟩ := hV 8 (by decide)
  obtain ⟨A9, c9, e9, h9⟩ := hV 9 (by decide)
  have e10 : x 10 = (.pointer (some ⟨w.heap.size, 0, none⟩)) := hV 10 (by decide)
  have e11 : x 11 = (.int .i64 P) := hV 11 (by decide)
  have e12 : x 12 = (.int .i64 (invF P 2)) := hV 12 (by decide)
  obtain ⟨A13, c13, e13, h13⟩ := hV 13 (by decide)
  obtain ⟨A14, c14, e14, h14⟩ := hV 14 (by decide)
  simp only [e0, e1, e2, e3, e4, e5, e6, e7, e8, e9, e10, e11, e12, e13, e14]
  clear e0 e1 e2 e3 e4 e5 e6 e7 e8 e9 e10 e11 e12 e13 e14
  refine wpAny_done (by kernel_rfl) ?_ _
  go_wp2
  go_ret
  exact ⟨_, _, rfl, h14⟩
end Go.Proofs.YtdbibmilicjllaaGreat
namespace Go.Proofs.YtdbibmilicjllaaGreat
open Go.RowKit
section
variable {P : Int} {n : Nat} {F G : List Int → Int}
end
/-- Where a vector's numbers lie in its multivector. -/
theorem vecTo_getD {n : Nat} (v : List Int) {b : Nat} (hb : b < pw n) : ∀ k, k ≤ n → (vecTo n v k).getD b 0 = sumTo k fun i => if b = 2 ^ i then v.getD i 0 else 0 := by
  intro k
  induction k with
  | zero => intro _; simp [vecTo, sumTo, List.getD_eq_getElem?_getD, hb]
  | succ k ih =>
    intro hk
    rw [vecTo_succ, sumTo_succ, List.getD_eq_getElem?_getD, List.getElem?_set]
    have hl : 2 ^ k < (vecTo n v k).length := by rw [vecTo_len]; exact two_lt (by omega)
    by_cases h : b = 2 ^ k
    · rw [if_pos h.symm, if_pos hl, if_pos h]
      have h0 : (sumTo k fun i => if b = 2 ^ i then v.getD i 0 else 0) = 0 := sumTo_zero fun i hi => by
        rw [if_neg]
        intro e
        have : 2 ^ i < 2 ^ k := Nat.pow_lt_pow_right (by omega) hi
        omega
      rw [h0]
      simp
    · rw [if_neg (fun e => h e.symm), if_neg h, ← ih (by omega), Int.add_zero, List.getD_eq_getElem?_getD]
theorem unitRow_getD {n k i : Nat} (hi : i < n) : (unitRow n k).getD i 0 = if k = i then 1 else 0 := by
  unfold unitRow
  rw [List.getD_eq_getElem?_getD, List.getElem?_set]
  by_cases h : k = i
  · rw [if_pos h, if_pos (by simp; omega), if_pos h]; rfl
  · rw [if_neg h, if_neg h, List.getElem?_replicate, if_pos hi]; rfl
/-- The columns of a bivector's matrix. -/
def colsL (P : Int) (sq : List Int) (n : Nat) (xs : List Int) : List (List Int) := tab n fun k => turnL P sq n xs (unitRow n k)
theorem colsL_len (P : Int) (sq : List Int) (n : Nat) (xs : List Int) : (colsL P sq n xs).length = n := tab_len _ _
theorem colsL_tab {P : Int} (hp : 2 ≤ P) (sq : List Int) (n : Nat) (xs : List Int) : Tab P n (colsL P sq n xs) :=
  Tab.tab fun _ _ => ⟨turnL_len _ _ _ _ _, turnL_nums hp _ _ _ _⟩
end Go.Proofs.YtdbibmilicjllaaGreat
namespace Go.Proofs.YtdbibmilicjllaaGreat
theorem bit_eq (a i : Nat) : bit a i = (a.testBit i).toNat := by
  unfold bit
  rw [Nat.testBit_eq_decide_div_mod_eq]
  rcases Nat.mod_two_eq_zero_or_one (a / 2 ^ i) with h | h <;> rw [h] <;> rfl
theorem bit_le (a i : Nat) : bit a i < 2 := by unfold bit; exact Nat.mod_lt _ (by decide)
theorem bit_xor (a b i : Nat) : bit (a ^^^ b) i = (bit a i + bit b i) % 2 := by
  rw [bit_eq, bit_eq, bit_eq, Nat.testBit_xor]
  cases a.testBit i <;> cases b.testBit i <;> rfl
/-- The number of the first k bits. -/
def pcn (a : Nat) : Nat → Nat
  | 0 => 0
  | k + 1 => pcn a k + bit a k
theorem bit_half (a i : Nat) : bit (a / 2) i = bit a (i + 1) := by
  unfold bit
  rw [Nat.div_div_eq_div_mul, Nat.pow_succ, Nat.mul_comm]
theorem pcn_half (a : Nat) : ∀ k, pcn a (k + 1) = a % 2 + pcn (a / 2) k := by
  intro k
  induction k with
  | zero => simp [pcn, bit]
  | succ k ih =>
    rw [pcn, ih, pcn, bit_half, Nat.add_assoc]
theorem pc_pcn : ∀ (k a : Nat), a < 2 ^ k → pc a = pcn a k := by
  intro k
  induction k with
  | zero =>
    intro a h
    obtain rfl : a = 0 := by omega
    rw [pc_zero]; rfl
  | succ k ih =>
    intro a h
    rw [pc_rec, pcn_half, ih _ (by rw [Nat.pow_succ] at h; omega)]
theorem pcn_xor (a b : Nat) : ∀ k, pcn (a ^^^ b) k % 2 = (pcn a k + pcn b k) % 2 := by
  intro k
  induction k with
  | zero => rfl
  | succ k ih =>
    simp only [pcn]
    rw [bit_xor]
    omega
theorem pc_xor (a b : Nat) : pc (a ^^^ b) % 2 = (pc a + pc b) % 2 := by
  obtain ⟨k, ha, hb⟩ : ∃ k, a < 2 ^ k ∧ b < 2 ^ k :=
    ⟨a + b, Nat.lt_of_le_of_lt (Nat.le_add_right a b) Nat.lt_two_pow_self, Nat.lt_of_le_of_lt (Nat.le_add_left b a) Nat.lt_two_pow_self⟩
  rw [pc_pcn k _ (Nat.xor_lt_two_pow ha hb), pc_pcn k _ ha, pc_pcn k _ hb]
  exact pcn_xor a b k
theorem xor_div (a b k : Nat) : (a ^^^ b) / 2 ^ k = (a / 2 ^ k) ^^^ (b / 2 ^ k) := by
  rw [← Nat.shiftRight_eq_div_pow, ← Nat.shiftRight_eq_div_pow, ← Nat.shiftRight_eq_div_pow]
  exact Nat.shiftRight_xor_distrib
theorem swaps_left (a c b : Nat) : ∀ n, swaps (a ^^^ c) b n % 2 = (swaps a b n + swaps c b n) % 2 := by
  intro n
  induction n with
  | zero => rfl
  | succ n ih =>
    simp only [swaps]
    by_cases h : bit b n = 1
    · simp only [if_pos h]
      have := pc_xor (a / 2 ^ (n + 1)) (c / 2 ^ (n + 1))
      rw [xor_div]
      omega
    · simp only [if_neg h]; omega
theorem swaps_right (a b c : Nat) : ∀ n, swaps a (b ^^^ c) n % 2 = (swaps a b n + swaps a c n) % 2 := by
  intro n
  induction n with
  | zero => rfl
  | succ n ih =>
    simp only [swaps]
    rw [bit_xor]
    have h1 := bit_le b n
    have h2 := bit_le c n
    rcases (show bit b n = 0 ∨ bit b n = 1 by omega) with e1 | e1 <;> rcases (show bit c n = 0 ∨ bit c n = 1 by omega) with e2 | e2 <;> simp [e1, e2] <;> omega
/-- 1 or -1: the sign of a number of exchanges. -/
def sg (k : Nat) : Int := if k % 2 = 1 then -1 else 1
theorem sg_add (k l : Nat) : sg (k + l) = sg k * sg l := by
  unfold sg
  rcases Nat.mod_two_eq_zero_or_one k with h | h <;> rcases Nat.mod_two_eq_zero_or_one l with h' | h' <;> simp [Nat.add_mod, h, h']
theorem sg_congr {k l : Nat} (h : k % 2 = l % 2) : sg k = sg l := by unfold sg; rw [h]
/-- The product of the first i squares that both masks have, as an integer. -/
def comZ (sq : List Int) (a b : Nat) : Nat → Int
  | 0 => 1
  | i + 1 => comZ sq a b i * (if bit b i = 1 ∧ bit a i = 1 then sq.getD i 0 else 1)
theorem common_comZ (p : Int) (sq : List Int) (a b : Nat) : ∀ i, common p sq a b i % p = comZ sq a b i % p := by
  intro i
  induction i with
  | zero => rfl
  | succ i ih =>
    simp only [common, comZ]
    split
    · rw [Int.emod_emod_of_dvd _ (Int.dvd_refl p), Int.mul_emod, ih, ← Int.mul_emod]
    · rw [Int.mul_one, ih]
theorem comZ_symm (sq : List Int) (a b : Nat) : ∀ i, comZ sq a b i = comZ sq b a i := by
  intro i
  induction i with
  | zero => rfl
  | succ i ih => simp only [comZ]; rw [ih]; congr 1; simp only [And.comm]
theorem comZ_cocycle (sq : List Int) (a b c : Nat) : ∀ i, comZ sq a b i * comZ sq (a ^^^ b) c i = comZ sq b c i * comZ sq a (b ^^^ c) i := by
  intro i
  induction i with
  | zero => rfl
  | succ i ih =>
    simp only [comZ]
    rw [bit_xor, bit_xor]
    have key : ∀ X Y Z W s t u v : Int, X * Y = Z * W → s * t = u * v → (X * s) * (Y * t) = (Z * u) * (W * v) := fun X Y Z W s t u v h1 h2 => by
      rw [show (X * s) * (Y * t) = (X * Y) * (s * t) by rw [Int.mul_assoc, Int.mul_left_comm s, ← Int.mul_assoc], h1, h2]
      rw [Int.mul_assoc, Int.mul_left_comm W, ← Int.mul_assoc]
    refine key _ _ _ _ _ _ _ _ ih ?_
    have h1 := bit_le a i
    have h2 := bit_le b i
    have h3 := bit_le c i
    rcases (show bit a i = 0 ∨ bit a i = 1 by omega) with e1 | e1 <;> rcases (show bit b i = 0 ∨ bit b i = 1 by omega) with e2 | e2 <;> rcases (show bit c i = 0 ∨ bit c i = 1 by omega) with e3 | e3 <;> simp [e1, e2, e3]
/-- The number by which the product of two blades is that of their different bits, as an integer. -/
def facZ (sq : List Int) (a b : Nat) : Int := sg (swaps a b sq.length) * comZ sq a b sq.length
theorem fac_facZ (p : Int) (sq : List Int) (a b : Nat) : fac p sq a b % p = facZ sq a b % p := by
  unfold fac facZ sg
  split
  · rw [Int.emod_emod_of_dvd _ (Int.dvd_refl p), Int.neg_mul, Int.one_mul, ← Int.zero_sub, ← Int.zero_sub, Int.sub_emod, common_comZ, ← Int.sub_emod]
  · rw [Int.one_mul, common_comZ]
theorem facZ_cocycle (sq : List Int) (a b c : Nat) : facZ sq a b * facZ sq (a ^^^ b) c = facZ sq b c * facZ sq a (b ^^^ c) := by
  unfold facZ
  have hs : sg (swaps a b sq.length) * sg (swaps (a ^^^ b) c sq.length) = sg (swaps b c sq.length) * sg (swaps a (b ^^^ c) sq.length) := by
    rw [← sg_add, ← sg_add]
    apply sg_congr
    have h1 := swaps_left a b c sq.length
    have h2 := swaps_right a b c sq.length
    omega
  have hc := comZ_cocycle sq a b c sq.length
  have key : ∀ X Y Z W s t u v : Int, X * Y = Z * W → s * t = u * v → (X * s) * (Y * t) = (Z * u) * (W * v) := fun X Y Z W s t u v h1 h2 => by
    rw [show (X * s) * (Y * t) = (X * Y) * (s * t) by rw [Int.mul_assoc, Int.mul_left_comm s, ← Int.mul_assoc], h1, h2]
    rw [Int.mul_assoc, Int.mul_left_comm W, ← Int.mul_assoc]
  exact key _ _ _ _ _ _ _ _ hs hc
theorem xor_self_left (a b : Nat) : a ^^^ (a ^^^ b) = b := by rw [← Nat.xor_assoc, Nat.xor_self, Nat.zero_xor]
theorem xor_self_right (a b : Nat) : (b ^^^ a) ^^^ a = b := by rw [Nat.xor_assoc, Nat.xor_self, Nat.xor_zero]
theorem sumTo_xor {n : Nat} (f : Nat → Int) {c : Nat} (hc : c < pw n) : sumTo (pw n) f = sumTo (pw n) fun a => f (a ^^^ c) := by
  have h : ∀ b, b < pw n → f b = sumTo (pw n) fun a => if a ^^^ c = b then f b else 0 := fun b hb => by
    rw [sumTo_one (b ^^^ c) (xor_lt hb hc) fun i _ hne => if_neg fun e => hne (by rw [← e, xor_self_right]), if_pos (xor_self_right c b)]
  rw [sumTo_congr h, sumTo_comm]
  refine sumTo_congr fun a ha => ?_
  rw [sumTo_one (a ^^^ c) (xor_lt ha hc) fun i _ hne => if_neg fun e => hne e.symm, if_pos rfl]
theorem sumTo_mul_right (n : Nat) (f : Nat → Int) (c : Int) : sumTo n (fun i => f i * c) = sumTo n f * c := by
  rw [Int.mul_comm, ← sumTo_mul]
  exact sumTo_congr fun i _ => Int.mul_comm _ _
/-- The product of multivectors over the integers, at place m. -/
def mulZ (sq : List Int) (x y : Nat → Int) (m : Nat) : Int := sumTo (pw sq.length) fun a => x a * y (a ^^^ m) * facZ sq a (a ^^^ m)
theorem mulZ_assoc (sq : List Int) (x y z : Nat → Int) {m : Nat} (hm : m < pw sq.length) : mulZ sq (mulZ sq x y) z m = mulZ sq x (mulZ sq y z) m := by
  unfold mulZ
  rw [sumTo_congr (g := fun c => sumTo (pw sq.length) fun a => x a * y (a ^^^ c) * facZ sq a (a ^^^ c) * (z (c ^^^ m) * facZ sq c (c ^^^ m))) fun c _ => by
    rw [sumTo_mul_right, Int.mul_assoc], sumTo_comm]
  refine sumTo_congr fun a ha => ?_
  rw [sumTo_xor _ ha, ← sumTo_mul, ← sumTo_mul_right]
  refine sumTo_congr fun b hb => ?_
  have e1 : a ^^^ (b ^^^ a) = b := by rw [Nat.xor_comm b, xor_self_left]
  have e2 : (b ^^^ a) ^^^ m = b ^^^ (a ^^^ m) := Nat.xor_assoc _ _ _
  rw [e1, e2]
  have h := facZ_cocycle sq a b (b ^^^ (a ^^^ m))
  rw [xor_self_left, Nat.xor_comm a b] at h
  calc x a * y b * facZ sq a b * (z (b ^^^ (a ^^^ m)) * facZ sq (b ^^^ a) (b ^^^ (a ^^^ m)))
      = x a * y b * z (b ^^^ (a ^^^ m)) * (facZ sq a b * facZ sq (b ^^^ a) (b ^^^ (a ^^^ m))) := by
        rw [Int.mul_assoc (x a * y b), Int.mul_left_comm (facZ sq a b), ← Int.mul_assoc]
    _ = x a * y b * z (b ^^^ (a ^^^ m)) * (facZ sq b (b ^^^ (a ^^^ m)) * facZ sq a (a ^^^ m)) := by rw [h]
    _ = _ := by
        rw [← Int.mul_assoc, Int.mul_assoc (x a), Int.mul_assoc (x a)]
theorem mulZ_cg (p : Int) (sq : List Int) {x x' y y' : Nat → Int} (hx : ∀ a, a < pw sq.length → x a % p = x' a % p) (hy : ∀ a, a < pw sq.length → y a % p = y' a % p) {m : Nat} (hm : m < pw sq.length) : mulZ sq x y m % p = mulZ sq x' y' m % p := by
  unfold mulZ
  refine sumTo_mod p fun a ha => ?_
  have h1 := hx a ha
  have h2 := hy _ (xor_lt ha hm)
  rw [Int.mul_emod, Int.mul_emod (x a), h1, h2, ← Int.mul_emod (x' a), ← Int.mul_emod]
structure Cl (p : Int) (sq : List Int) where
  l : List Int
  len : l.length = pw sq.length
  nums : NumsL p l
  pos : 0 < p
section
variable {p : Int} {sq : List Int}
/-- The number at a place. -/
def Cl.co (x : Cl p sq) (m : Nat) : Int := x.l.getD m 0
theorem Cl.ext {x y : Cl p sq} (h : x.l = y.l) : x = y := by
  cases x; cases y; cases h; rfl
theorem Cl.co_small (x : Cl p sq) (m : Nat) : 0 ≤ x.co m ∧ x.co m < p := x.nums.getD x.pos m
theorem Cl.co_mod (x : Cl p sq) (m : Nat) : x.co m % p = x.co m := Int.emod_eq_of_lt (x.co_small m).1 (x.co_small m).2
theorem Cl.same {x y : Cl p sq} (h : ∀ m, m < pw sq.length → x.co m % p = y.co m % p) : x = y := by
  refine Cl.ext (list_ext_getD 0 (by rw [x.len, y.len]) fun m hm => ?_)
  have := h m (by rw [← x.len]; exact hm)
  rwa [x.co_mod, y.co_mod] at this
/-- The multivector with these numbers. -/
def Cl.of (hp : 0 < p) (f : Nat → Int) : Cl p sq := ⟨tab (pw sq.length) fun m => f m % p, tab_len _ _, NumsL.tab fun _ _ => ⟨Int.emod_nonneg _ (by omega), Int.emod_lt_of_pos _ hp⟩, hp⟩
theorem Cl.of_co (hp : 0 < p) (f : Nat → Int) {m : Nat} (hm : m < pw sq.length) : (Cl.of hp f : Cl p sq).co m = f m % p := tab_getD hm 0
theorem Cl.of_cg (hp : 0 < p) (f : Nat → Int) {m : Nat} (hm : m < pw sq.length) : (Cl.of hp f : Cl p sq).co m % p = f m % p := by rw [Cl.of_co hp f hm, Int.emod_emod_of_dvd _ (Int.dvd_refl p)]
instance : Mul (Cl p sq) := ⟨fun x y => Cl.of x.pos (mulZ sq x.co y.co)⟩
instance : Add (Cl p sq) := ⟨fun x y => Cl.of x.pos fun m => x.co m + y.co m⟩
instance : Neg (Cl p sq) := ⟨fun x => Cl.of x.pos fun m => -(x.co m)⟩
instance : HMul Int (Cl p sq) (Cl p sq) := ⟨fun k x => Cl.of x.pos fun m => k * x.co m⟩
theorem Cl.mul_co (x y : Cl p sq) {m : Nat} (hm : m < pw sq.length) : (x * y).co m % p = mulZ sq x.co y.co m % p := Cl.of_cg _ _ hm
theorem Cl.add_co (x y : Cl p sq) {m : Nat} (hm : m < pw sq.length) : (x + y).co m % p = (x.co m + y.co m) % p := Cl.of_cg _ _ hm
theorem Cl.sm_co (k : Int) (x : Cl p sq) {m : Nat} (hm : m < pw sq.length) : (k * x).co m % p = (k * x.co m) % p := Cl.of_cg _ _ hm
theorem Cl.mul_assoc (x y z : Cl p sq) : x * y * z = x * (y * z) := Cl.same fun m hm => by
  rw [Cl.mul_co _ _ hm, Cl.mul_co _ _ hm, mulZ_cg p sq (fun a ha => Cl.mul_co x y ha) (fun _ _ => rfl) hm, mulZ_assoc sq _ _ _ hm]
  exact mulZ_cg p sq (fun _ _ => rfl) (fun a ha => (Cl.mul_co y z ha).symm) hm
theorem Cl.add_mul (x y z : Cl p sq) : (x + y) * z = x * z + y * z := Cl.same fun m hm => by
  rw [Cl.mul_co _ _ hm, mulZ_cg p sq (fun a ha => Cl.add_co x y ha) (fun _ _ => rfl) hm, Cl.add_co _ _ hm, Int.add_emod, Cl.mul_co _ _ hm, Cl.mul_co _ _ hm, ← Int.add_emod]
  unfold mulZ
  rw [← sumTo_add]
  congr 1
  exact sumTo_congr fun a _ => by rw [Int.add_mul, Int.add_mul]
theorem Cl.mul_add (x y z : Cl p sq) : x * (y + z) = x * y + x * z := Cl.same fun m hm => by
  rw [Cl.mul_co _ _ hm, mulZ_cg p sq (fun _ _ => rfl) (fun a ha => Cl.add_co y z ha) hm, Cl.add_co _ _ hm, Int.add_emod, Cl.mul_co _ _ hm, Cl.mul_co _ _ hm, ← Int.add_emod]
  unfold mulZ
  rw [← sumTo_add]
  congr 1
  exact sumTo_congr fun a _ => by rw [Int.mul_add, Int.add_mul]
theorem Cl.sm_mul (k : Int) (x y : Cl p sq) : (k * x) * y = k * (x * y) := Cl.same fun m hm => by
  rw [Cl.mul_co _ _ hm, mulZ_cg p sq (fun a ha => Cl.sm_co k x ha) (fun _ _ => rfl) hm, Cl.sm_co _ _ hm, Int.mul_emod k, Cl.mul_co _ _ hm, ← Int.mul_emod]
  unfold mulZ
  rw [← sumTo_mul]
  congr 1
  exact sumTo_congr fun a _ => by rw [Int.mul_assoc, Int.mul_assoc, Int.mul_assoc]
theorem Cl.mul_sm (k : Int) (x y : Cl p sq) : x * (k * y) = k * (x * y) := Cl.same fun m hm => by
  rw [Cl.mul_co _ _ hm, mulZ_cg p sq (fun _ _ => rfl) (fun a ha => Cl.sm_co k y ha) hm, Cl.sm_co _ _ hm, Int.mul_emod k, Cl.mul_co _ _ hm, ← Int.mul_emod]
  unfold mulZ
  rw [← sumTo_mul]
  congr 1
  exact sumTo_congr fun a _ => by rw [Int.mul_left_comm, Int.mul_assoc, Int.mul_assoc]
theorem Cl.add_comm (x y : Cl p sq) : x + y = y + x := Cl.same fun m hm => by rw [Cl.add_co _ _ hm, Cl.add_co _ _ hm, Int.add_comm]
theorem Cl.add_assoc (x y z : Cl p sq) : x + y + z = x + (y + z) := Cl.same fun m hm => by
  rw [Cl.add_co _ _ hm, Cl.add_co _ _ hm, Int.add_emod, Cl.add_co _ _ hm, ← Int.add_emod, Int.add_emod (x.co m), Cl.add_co _ _ hm, ← Int.add_emod, Int.add_assoc]
theorem Cl.sm_sm (k j : Int) (x : Cl p sq) : k * (j * x) = (k * j) * x := Cl.same fun m hm => by
  rw [Cl.sm_co _ _ hm, Int.mul_emod, Cl.sm_co _ _ hm, ← Int.mul_emod, Cl.sm_co _ _ hm, Int.mul_assoc]
theorem Cl.add_sm (k j : Int) (x : Cl p sq) : (k + j) * x = k * x + j * x := Cl.same fun m hm => by
  rw [Cl.sm_co _ _ hm, Cl.add_co _ _ hm, Int.add_emod, Cl.sm_co _ _ hm, Cl.sm_co _ _ hm, ← Int.add_emod, Int.add_mul]
theorem Cl.sm_cg {k j : Int} (h : k % p = j % p) (x : Cl p sq) : k * x = j * x := Cl.same fun m hm => by
  rw [Cl.sm_co _ _ hm, Cl.sm_co _ _ hm, Int.mul_emod, h, ← Int.mul_emod]
theorem Cl.one_sm (x : Cl p sq) : (1 : Int) * x = x := Cl.same fun m hm => by rw [Cl.sm_co _ _ hm, Int.one_mul]
/-- The numbers of a list, and no more than there are places. -/
def Cl.zero (hp : 0 < p) : Cl p sq := Cl.of hp fun _ => 0
theorem Cl.zero_sm (x : Cl p sq) : (0 : Int) * x = Cl.zero x.pos := Cl.same fun m hm => by
  rw [Cl.sm_co _ _ hm]; unfold Cl.zero; rw [Cl.of_cg _ _ hm, Int.zero_mul]
theorem Cl.add_zero (x : Cl p sq) (hp : 0 < p) : x + Cl.zero hp = x := Cl.same fun m hm => by
  rw [Cl.add_co _ _ hm, Int.add_emod]; unfold Cl.zero; rw [Cl.of_cg _ _ hm, ← Int.add_emod, Int.add_zero]
/-- The multivector 1. -/
def Cl.one (hp : 0 < p) : Cl p sq := Cl.of hp fun m => if m = 0 then 1 else 0
theorem Cl.one_co (hp : 0 < p) {m : Nat} (hm : m < pw sq.length) : (Cl.one hp : Cl p sq).co m % p = (if m = 0 then 1 else 0) % p := Cl.of_cg _ _ hm
theorem swaps_zero_right (a : Nat) : ∀ n, swaps a 0 n = 0 := by
  intro n
  induction n with
  | zero => rfl
  | succ n ih => simp [swaps, ih, bit_zero]
theorem swaps_zero_left (b : Nat) : ∀ n, swaps 0 b n = 0 := by
  intro n
  induction n with
  | zero => rfl
  | succ n ih => simp [swaps, ih, pc_zero]
theorem comZ_zero_left (sq : List Int) (b : Nat) : ∀ n, comZ sq 0 b n = 1 := by
  intro n
  induction n with
  | zero => rfl
  | succ n ih => simp [comZ, ih, bit_zero]
theorem facZ_zero_left (sq : List Int) (b : Nat) : facZ sq 0 b = 1 := by unfold facZ; rw [swaps_zero_left, comZ_zero_left]; rfl
theorem facZ_zero_right (sq : List Int) (a : Nat) : facZ sq a 0 = 1 := by unfold facZ; rw [swaps_zero_right, comZ_symm, comZ_zero_left]; rfl
theorem mulZ_one_left (sq : List Int) (x : Nat → Int) (m : Nat) : mulZ sq (fun m => if m = 0 then 1 else 0) x m = x m := by
  unfold mulZ
  rw [sumTo_one 0 (pw_pos _) fun i _ h => by dsimp only; rw [if_neg h, Int.zero_mul, Int.zero_mul]]
  dsimp only
  rw [if_pos rfl, Nat.zero_xor, facZ_zero_left, Int.one_mul, Int.mul_one]
theorem mulZ_one_right (sq : List Int) (x : Nat → Int) {m : Nat} (hm : m < pw sq.length) : mulZ sq x (fun m => if m = 0 then 1 else 0) m = x m := by
  unfold mulZ
  rw [sumTo_one m hm fun i _ h => by dsimp only; rw [if_neg (fun e => h (by have := (xor_eq_iff i m 0).1 e; rw [this, Nat.xor_zero])), Int.mul_zero, Int.zero_mul]]
  dsimp only
  rw [Nat.xor_self, if_pos rfl, facZ_zero_right, Int.mul_one, Int.mul_one]
theorem Cl.one_mul (hp : 0 < p) (x : Cl p sq) : Cl.one hp * x = x := Cl.same fun m hm => by
  rw [Cl.mul_co _ _ hm, mulZ_cg p sq (fun a ha => Cl.one_co hp ha) (fun _ _ => rfl) hm, mulZ_one_left]
theorem Cl.mul_one (hp : 0 < p) (x : Cl p sq) : x * Cl.one hp = x := Cl.same fun m hm => by
  rw [Cl.mul_co _ _ hm, mulZ_cg p sq (fun _ _ => rfl) (fun a ha => Cl.one_co hp ha) hm, mulZ_one_right sq _ hm]
theorem mulL_co {n : Nat} (hn : sq.length = n) {xs ys : List Int} (hx : xs.length = pw n) (hy : ys.length = pw n) {m : Nat} (hm : m < pw n) : (mulL p sq xs ys).getD m 0 % p = mulZ sq (fun a => xs.getD a 0) (fun a => ys.getD a 0) m % p := by
  subst hn
  unfold mulL
  rw [prodL_getD p sq _ xs ys _ m hx hy hm, Int.emod_emod_of_dvd _ (Int.dvd_refl p)]
  unfold mulZ
  refine sumTo_mod p fun a _ => ?_
  unfold term
  rw [if_pos rfl, Int.mul_emod, fac_facZ, ← Int.mul_emod]
theorem Cl.mul_l (x y : Cl p sq) : (x * y).l = mulL p sq x.l y.l := by
  refine list_ext_getD 0 (by rw [(x * y).len, mulL_len, x.len]) fun m hm => ?_
  rw [(x * y).len] at hm
  have h1 := (x * y).co_mod m
  have h2 := Cl.mul_co x y hm
  have h3 := mulL_co (p := p) rfl x.len y.len hm
  have h4 := (mulL_nums x.pos sq x.l y.l).getD x.pos m
  rw [Int.emod_eq_of_lt h4.1 h4.2] at h3
  rw [h3]
  rw [h1] at h2
  exact h2
theorem Cl.one_l (hp : 2 ≤ p) : (Cl.one (by omega) : Cl p sq).l = bladeL sq.length 0 := by
  refine list_ext_getD 0 (by rw [Cl.len, bladeL_len]) fun m hm => ?_
  rw [Cl.len] at hm
  rw [bladeL_getD _ _ _ hm]
  show (Cl.one _ : Cl p sq).co m = _
  unfold Cl.one
  rw [Cl.of_co _ _ hm]
  by_cases h : m = 0
  · rw [if_pos h, if_pos h.symm, Int.emod_eq_of_lt (by omega) (by omega)]
  · rw [if_neg h, if_neg (fun e => h e.symm), Int.zero_emod]
end
end Go.Proofs.YtdbibmilicjllaaGreat
namespace Go.Proofs.YtdbibmilicjllaaGreat
open Go.RowKit
theorem unitM_getD {n i : Nat} (h : i < n) : (unitM n).getD i [] = unitRow n i := by
  rw [getD_of_lt [] (by rw [unitM_len]; exact h), unitM_get]
end Go.Proofs.YtdbibmilicjllaaGreat
namespace Go.Proofs.YtdbibmilicjllaaGreat
theorem bit_high {b n i : Nat} (hb : b < 2 ^ n) (h : n ≤ i) : bit b i = 0 := by
  unfold bit
  rw [Nat.div_eq_of_lt (Nat.lt_of_lt_of_le hb (Nat.pow_le_pow_right (by decide) h))]
section
variable {p : Int} {sq : List Int}
def Cl.vec (hp : 0 < p) (v : List Int) : Cl p sq := Cl.of hp fun b => sumTo sq.length fun i => if b = 2 ^ i then v.getD i 0 else 0
theorem Cl.vec_co (hp : 0 < p) (v : List Int) {m : Nat} (hm : m < pw sq.length) : (Cl.vec hp v : Cl p sq).co m % p = (sumTo sq.length fun i => if m = 2 ^ i then v.getD i 0 else 0) % p := Cl.of_cg _ _ hm
theorem Cl.vec_l (hp : 0 < p) {v : List Int} (hv : NumsL p v) : (Cl.vec hp v : Cl p sq).l = vecTo sq.length v sq.length := by
  refine list_ext_getD 0 (by rw [Cl.len, vecTo_len]) fun m hm => ?_
  rw [Cl.len] at hm
  rw [vecTo_getD _ hm _ (Nat.le_refl _)]
  show (Cl.vec _ _ : Cl p sq).co m = _
  rw [← Cl.co_mod, Cl.vec_co hp v hm, ← vecTo_getD v hm _ (Nat.le_refl _)]
  have := (vecTo_nums hp sq.length v hv sq.length).getD hp m
  exact Int.emod_eq_of_lt this.1 this.2
theorem pow_inj {i j : Nat} (h : (2 : Nat) ^ i = 2 ^ j) : i = j := (Nat.pow_right_inj (by decide)).1 h
theorem bit_pow (i j : Nat) : bit (2 ^ i) j = if i = j then 1 else 0 := by
  rw [bit_eq, Nat.testBit_two_pow]
  by_cases h : i = j <;> simp [h]
theorem pc_pow (i : Nat) : pc (2 ^ i) = 1 := by
  rw [pc_pcn (i + 1) _ (Nat.pow_lt_pow_right (by decide) (by omega)), pcn, bit_pow, if_pos rfl]
  have : ∀ k, k ≤ i → pcn (2 ^ i) k = 0 := by
    intro k
    induction k with
    | zero => intro _; rfl
    | succ k ih => intro hk; rw [pcn, ih (by omega), bit_pow, if_neg (by omega)]
  rw [this i (Nat.le_refl _)]
theorem swaps_pow (a j : Nat) : ∀ k, swaps a (2 ^ j) k = if j < k then pc (a / 2 ^ (j + 1)) else 0 := by
  intro k
  induction k with
  | zero => rfl
  | succ k ih =>
    simp only [swaps]
    rw [ih, bit_pow]
    by_cases h1 : j = k
    · subst h1; simp
    · by_cases h2 : j < k
      · simp [h1, h2, show j < k + 1 by omega]
      · simp [h1, h2, show ¬ j < k + 1 by omega]
theorem comZ_pow (sq : List Int) (i j : Nat) : ∀ k, comZ sq (2 ^ i) (2 ^ j) k = if i = j ∧ i < k then sq.getD i 0 else 1 := by
  intro k
  induction k with
  | zero => simp [comZ]
  | succ k ih =>
    simp only [comZ]
    rw [ih, bit_pow, bit_pow]
    by_cases h : i = j
    · subst h
      by_cases h1 : i = k
      · subst h1; simp
      · by_cases h2 : i < k
        · simp [h1, h2, show i < k + 1 by omega]
        · simp [h1, h2, show ¬ i < k + 1 by omega]
    · simp only [h, false_and, if_false]
      rw [if_neg, Int.mul_one]
      rintro ⟨h1, h2⟩
      split at h1
      · split at h2
        · omega
        · cases h2
      · cases h1
theorem facZ_same (sq : List Int) {i : Nat} (hi : i < sq.length) : facZ sq (2 ^ i) (2 ^ i) = sq.getD i 0 := by
  unfold facZ
  rw [swaps_pow, if_pos hi, comZ_pow, if_pos ⟨rfl, hi⟩, Nat.div_eq_of_lt (Nat.pow_lt_pow_right (by decide) (by omega)), pc_zero]
  show 1 * _ = _
  rw [Int.one_mul]
theorem facZ_less (sq : List Int) {i j : Nat} (h : i < j) (hj : j < sq.length) : facZ sq (2 ^ i) (2 ^ j) = 1 ∧ facZ sq (2 ^ j) (2 ^ i) = -1 := by
  unfold facZ
  rw [swaps_pow, if_pos hj, comZ_pow, if_neg (by omega), swaps_pow, if_pos (by omega), comZ_pow, if_neg (by omega), Nat.div_eq_of_lt (Nat.pow_lt_pow_right (by decide) (by omega)), pc_zero]
  refine ⟨rfl, ?_⟩
  rw [Nat.pow_div (by omega) (by decide), pc_pow]
  rfl
theorem facZ_both (sq : List Int) {i j : Nat} (hi : i < sq.length) (hj : j < sq.length) : facZ sq (2 ^ i) (2 ^ j) + facZ sq (2 ^ j) (2 ^ i) = if i = j then 2 * sq.getD i 0 else 0 := by
  rcases Nat.lt_trichotomy i j with h | h | h
  · rw [(facZ_less sq h hj).1, (facZ_less sq h hj).2, if_neg (by omega)]; rfl
  · subst h; rw [facZ_same sq hi, if_pos rfl]; omega
  · rw [(facZ_less sq h hi).1, (facZ_less sq h hi).2, if_neg (by omega)]; rfl
/-- The product of two vectors, over the integers. -/
def bil (sq v u : List Int) : Int := sumTo sq.length fun i => v.getD i 0 * u.getD i 0 * sq.getD i 0
theorem bil_symm (sq v u : List Int) : bil sq v u = bil sq u v := sumTo_congr fun i _ => by rw [Int.mul_comm (v.getD i 0)]
/-- The product of vectors, at a place. -/
theorem mulZ_vec (sq u v : List Int) {m : Nat} (hm : m < pw sq.length) :
    mulZ sq (fun b => sumTo sq.length fun i => if b = 2 ^ i then u.getD i 0 else 0) (fun b => sumTo sq.length fun i => if b = 2 ^ i then v.getD i 0 else 0) m
      = sumTo sq.length fun i => sumTo sq.length fun j => if 2 ^ i ^^^ 2 ^ j = m then u.getD i 0 * v.getD j 0 * facZ sq (2 ^ i) (2 ^ j) else 0 := by
  unfold mulZ
  rw [sumTo_congr (g := fun a => sumTo sq.length fun i => if a = 2 ^ i then sumTo sq.length fun j => if 2 ^ i ^^^ 2 ^ j = m then u.getD i 0 * v.getD j 0 * facZ sq (2 ^ i) (2 ^ j) else 0 else 0) fun a ha => ?_, sumTo_comm]
  · refine sumTo_congr fun i hi => ?_
    rw [sumTo_one (2 ^ i) (two_lt hi) fun a _ hne => if_neg hne, if_pos rfl]
  · rw [← sumTo_mul_right, ← sumTo_mul_right]
    refine sumTo_congr fun i _ => ?_
    by_cases h : a = 2 ^ i
    · rw [if_pos h, if_pos h, ← sumTo_mul, ← sumTo_mul_right]
      refine sumTo_congr fun j _ => ?_
      by_cases h2 : 2 ^ i ^^^ 2 ^ j = m
      · rw [if_pos h2, h, if_pos ((xor_eq_iff _ _ _).1 h2).symm, ← (xor_eq_iff _ _ _).1 h2]
      · rw [if_neg h2, h, if_neg (fun e => h2 ((xor_eq_iff _ _ _).2 e.symm)), Int.mul_zero, Int.zero_mul]
    · rw [if_neg h, if_neg h, Int.zero_mul, Int.zero_mul]
/-- Vectors: the sum of both products is twice the number of the product. -/
theorem Cl.vec_anti (hp : 0 < p) (u v : List Int) : (Cl.vec hp u : Cl p sq) * Cl.vec hp v + Cl.vec hp v * Cl.vec hp u = (2 * bil sq u v) * Cl.one hp := Cl.same fun m hm => by
  rw [Cl.add_co _ _ hm, Int.add_emod, Cl.mul_co _ _ hm, Cl.mul_co _ _ hm, mulZ_cg p sq (fun a ha => Cl.vec_co hp u ha) (fun a ha => Cl.vec_co hp v ha) hm,
    mulZ_cg p sq (fun a ha => Cl.vec_co hp v ha) (fun a ha => Cl.vec_co hp u ha) hm, ← Int.add_emod, mulZ_vec sq u v hm, mulZ_vec sq v u hm, Cl.sm_co _ _ hm, Int.mul_emod (2 * _), Cl.one_co hp hm, ← Int.mul_emod]
  congr 1
  rw [sumTo_comm sq.length sq.length (fun i j => if 2 ^ i ^^^ 2 ^ j = m then v.getD i 0 * u.getD j 0 * facZ sq (2 ^ i) (2 ^ j) else 0), ← sumTo_add]
  unfold bil
  rw [← sumTo_mul, ← sumTo_mul_right]
  refine sumTo_congr fun i hi => ?_
  rw [← sumTo_add]
  have key : ∀ j, j < sq.length → ((if 2 ^ i ^^^ 2 ^ j = m then u.getD i 0 * v.getD j 0 * facZ sq (2 ^ i) (2 ^ j) else 0) + if 2 ^ j ^^^ 2 ^ i = m then v.getD j 0 * u.getD i 0 * facZ sq (2 ^ j) (2 ^ i) else 0) = if 2 ^ i ^^^ 2 ^ j = m then u.getD i 0 * v.getD j 0 * (if i = j then 2 * sq.getD i 0 else 0) else 0 := fun j hj => by
    rw [Nat.xor_comm (2 ^ j)]
    by_cases h : 2 ^ i ^^^ 2 ^ j = m
    · rw [if_pos h, if_pos h, if_pos h, Int.mul_comm (v.getD j 0), ← Int.mul_add, facZ_both sq hi hj]
    · rw [if_neg h, if_neg h, if_neg h]; rfl
  rw [sumTo_congr key, sumTo_one i hi fun j _ hne => by
    split
    · rw [if_neg (fun e => hne e.symm), Int.mul_zero]
    · rfl]
  rw [if_pos rfl, Nat.xor_self]
  by_cases h : m = 0
  · rw [if_pos h, if_pos h.symm, Int.mul_one, Int.mul_left_comm]
  · rw [if_neg h, if_neg (fun e => h e.symm), Int.mul_zero]
end
end Go.Proofs.YtdbibmilicjllaaGreat
namespace Go.Proofs.YtdbibmilicjllaaGreat
theorem half_ok {p : Int} (hP : isP p = true) : (p + 1) / 2 * 2 % p = 1 % p := by
  simp only [isP, Bool.or_eq_true, beq_iff_eq] at hP
  rcases hP with (((rfl | rfl) | rfl) | rfl) | rfl <;> decide
theorem inv_mod {p a : Int} (hP : isP p = true) (h : a % p ≠ 0) : a * invF p (a % p) % p = 1 := by
  have h3 := (isP_ge hP).1
  have h1 := Int.emod_nonneg a (show p ≠ 0 by omega)
  have h2 := Int.emod_lt_of_pos a (show 0 < p by omega)
  have hs := inv_spec hP (show 0 < a % p by omega) h2
  have := (hs.2.2 (invF p (a % p)) (by omega) hs.2.1).2 rfl
  rw [Int.mul_emod, Int.emod_emod_of_dvd _ (Int.dvd_refl p)] at this
  rw [Int.mul_emod]
  exact this
section
variable {p : Int} {sq : List Int}
theorem Cl.two (x : Cl p sq) : x + x = (2 : Int) * x := by
  have := Cl.add_sm 1 1 x
  rw [Cl.one_sm] at this
  exact this.symm
theorem Cl.half {x y : Cl p sq} (hP : isP p = true) (h : (2 : Int) * x = (2 : Int) * y) : x = y := by
  have e : ∀ z : Cl p sq, ((p + 1) / 2 : Int) * ((2 : Int) * z) = z := fun z => by rw [Cl.sm_sm, Cl.sm_cg (half_ok hP), Cl.one_sm]
  rw [← e x, h, e y]
theorem Cl.add_back (x y : Cl p sq) (k : Int) : x + k * y + (-k) * y = x := by
  rw [Cl.add_assoc, ← Cl.add_sm, show k + -k = 0 by omega, Cl.zero_sm, Cl.add_zero]
theorem Cl.move {x y z : Cl p sq} {k : Int} (h : x + k * y = z) : x = z + (-k) * y := by rw [← h, Cl.add_back]
theorem Cl.vec_plus (hp : 0 < p) {a b : List Int} (ha : a.length = sq.length) (k : Int) : (Cl.vec hp (plusL p a b k) : Cl p sq) = Cl.vec hp a + k * Cl.vec hp b := Cl.same fun m hm => by
  rw [Cl.vec_co hp _ hm, Cl.add_co _ _ hm, Int.add_emod, Cl.vec_co hp _ hm, Cl.sm_co _ _ hm, Int.mul_emod, Cl.vec_co hp _ hm, ← Int.mul_emod, ← Int.add_emod, ← sumTo_mul, ← sumTo_add]
  refine sumTo_mod p fun i hi => ?_
  by_cases h : m = 2 ^ i
  · rw [if_pos h, if_pos h, if_pos h, plusL_getD _ _ (by omega), Int.emod_emod_of_dvd _ (Int.dvd_refl p)]
  · rw [if_neg h, if_neg h, if_neg h, Int.mul_zero]; rfl
theorem Cl.vec_scale (hp : 0 < p) {a : List Int} (ha : a.length = sq.length) (k : Int) : (Cl.vec hp (scaleL p a k) : Cl p sq) = k * Cl.vec hp a := Cl.same fun m hm => by
  rw [Cl.vec_co hp _ hm, Cl.sm_co _ _ hm, Int.mul_emod, Cl.vec_co hp _ hm, ← Int.mul_emod, ← sumTo_mul]
  refine sumTo_mod p fun i hi => ?_
  by_cases h : m = 2 ^ i
  · rw [if_pos h, if_pos h, scaleL_getD _ (by omega), Int.emod_emod_of_dvd _ (Int.dvd_refl p), Int.mul_comm]
  · rw [if_neg h, if_neg h, Int.mul_zero]
theorem Cl.vec_sq (hp : 0 < p) (hP : isP p = true) (v : List Int) : (Cl.vec hp v : Cl p sq) * Cl.vec hp v = bil sq v v * Cl.one hp := by
  refine Cl.half hP ?_
  rw [← Cl.two, Cl.vec_anti, Cl.sm_sm]
theorem pairL_bil {v u : List Int} (hv : v.length = sq.length) : pairL p sq v u % p = bil sq v u % p := by
  rw [pairL_sum hv, Int.emod_emod_of_dvd _ (Int.dvd_refl p)]
  unfold bil
  refine sumTo_mod p fun i _ => ?_
  rw [Int.mul_emod, Int.emod_emod_of_dvd _ (Int.dvd_refl p), ← Int.mul_emod]
/-- Products of vectors. -/
def Cl.prod (hp : 0 < p) (vs : List (List Int)) : Cl p sq := vs.foldl (fun x v => x * Cl.vec hp v) (Cl.one hp)
theorem Cl.prod_from (hp : 0 < p) (vs : List (List Int)) : ∀ y : Cl p sq, vs.foldl (fun x v => x * Cl.vec hp v) y = y * Cl.prod hp vs := by
  induction vs with
  | nil => intro y; exact (Cl.mul_one hp y).symm
  | cons v vs ih =>
    intro y
    unfold Cl.prod
    rw [List.foldl_cons, ih, List.foldl_cons, ih, Cl.one_mul, Cl.mul_assoc]
theorem Cl.prod_cons (hp : 0 < p) (v : List Int) (vs : List (List Int)) : (Cl.prod hp (v :: vs) : Cl p sq) = Cl.vec hp v * Cl.prod hp vs := by
  have := Cl.prod_from hp vs (Cl.vec hp v : Cl p sq)
  rw [← this]
  unfold Cl.prod
  rw [List.foldl_cons, Cl.one_mul]
theorem Cl.prod_snoc (hp : 0 < p) (v : List Int) (vs : List (List Int)) : (Cl.prod hp (vs ++ [v]) : Cl p sq) = Cl.prod hp vs * Cl.vec hp v := by
  unfold Cl.prod
  rw [List.foldl_append]; rfl
end
end Go.Proofs.YtdbibmilicjllaaGreat
namespace Go.Proofs.YtdbibmilicjllaaGreat
section
variable {p : Int} {sq : List Int}
theorem mul_ne {p : Int} (hP : isP p = true) {a b : Int} (ha : a % p ≠ 0) (hb : b % p ≠ 0) : a * b % p ≠ 0 := fun h => by
  have h3 := (isP_ge hP).1
  rw [Int.mul_emod] at h
  rcases mul_zero_mod hP (emod_small a p (by omega)) (emod_small b p (by omega)) h with h | h
  · exact ha h
  · exact hb h
/-- A vector is a sum of multiples of unit vectors. -/
def Cl.sum (hp : 0 < p) : Nat → (Nat → Cl p sq) → Cl p sq
  | 0, _ => Cl.zero hp
  | n + 1, f => Cl.sum hp n f + f n
theorem Cl.zero_co (hp : 0 < p) {m : Nat} (hm : m < pw sq.length) : (Cl.zero hp : Cl p sq).co m % p = 0 := by
  unfold Cl.zero; rw [Cl.of_cg _ _ hm, Int.zero_emod]
theorem Cl.sum_co (hp : 0 < p) (f : Nat → Cl p sq) {m : Nat} (hm : m < pw sq.length) : ∀ n, (Cl.sum hp n f).co m % p = (sumTo n fun i => (f i).co m) % p := by
  intro n
  induction n with
  | zero => rw [show Cl.sum hp 0 f = Cl.zero hp from rfl, Cl.zero_co hp hm]; rfl
  | succ n ih =>
    rw [show Cl.sum hp (n + 1) f = Cl.sum hp n f + f n from rfl, Cl.add_co _ _ hm, Int.add_emod, ih, ← Int.add_emod, sumTo_succ]
theorem Cl.zero_mul (hp : 0 < p) (x : Cl p sq) : Cl.zero hp * x = Cl.zero hp := by
  have := Cl.zero_sm (x := (Cl.one hp : Cl p sq))
  rw [← this, Cl.sm_mul, Cl.one_mul, Cl.zero_sm, Cl.zero_sm]
theorem Cl.mul_zero (hp : 0 < p) (x : Cl p sq) : x * Cl.zero hp = Cl.zero hp := by
  have := Cl.zero_sm (x := (Cl.one hp : Cl p sq))
  rw [← this, Cl.mul_sm, Cl.mul_one, Cl.zero_sm, Cl.zero_sm]
end
end Go.Proofs.YtdbibmilicjllaaGreat
namespace Go.Proofs.YtdbibmilicjllaaGreat
open Go.RowKit
theorem pairL_small {P : Int} (hp : 2 ≤ P) (sq v u : List Int) : 0 ≤ pairL P sq v u ∧ pairL P sq v u < P := by
  unfold pairL dotL
  exact ⟨Int.emod_nonneg _ (by omega), Int.emod_lt_of_pos _ (by omega)⟩
/-- The reflection in u of v, as the program computes it. -/
def rflL (P : Int) (sq u v : List Int) : List Int := plusL P v u (-2 * pairL P sq u v * invF P (pairL P sq u u))
theorem rflL_len (P : Int) (sq u v : List Int) : (rflL P sq u v).length = v.length := plusL_len _ _ _ _
theorem rflL_nums {P : Int} (hp : 0 < P) (sq u v : List Int) : NumsL P (rflL P sq u v) := plusL_nums hp _ _ _
theorem mul_two_small {P a b : Int} (h2 : P ≤ 13) (ha : 0 ≤ a ∧ a < P) (hb : 0 ≤ b ∧ b < P) : 0 ≤ a * b ∧ a * b ≤ 144 :=
  ⟨Int.mul_nonneg ha.1 hb.1, Int.le_trans (Int.mul_le_mul_of_nonneg_right (show a ≤ 12 by omega) hb.1) (by omega)⟩
theorem rflL_mod {P : Int} (sq u v : List Int) : plusL P v u ((-(2 * pairL P sq u v % P * invF P (pairL P sq u u) % P)) % P) = rflL P sq u v := by
  unfold rflL
  refine plusL_mod P v u ?_
  obtain ⟨a, ha⟩ : ∃ a, a = pairL P sq u v := ⟨_, rfl⟩
  obtain ⟨i, hi⟩ : ∃ i, i = invF P (pairL P sq u u) := ⟨_, rfl⟩
  rw [← ha, ← hi, Int.emod_emod_of_dvd _ (Int.dvd_refl P)]
  have h1 : (2 * a % P * i % P) % P = (2 * a * i) % P := by rw [Int.emod_emod_of_dvd _ (Int.dvd_refl P), Int.mul_emod, Int.emod_emod_of_dvd _ (Int.dvd_refl P), ← Int.mul_emod]
  have h2 := congrArg (fun z => (-1 * z) % P) h1
  have h3 : ∀ z : Int, (-1 * (z % P)) % P = (-z) % P := fun z => by rw [Int.mul_emod, Int.emod_emod_of_dvd _ (Int.dvd_refl P), ← Int.mul_emod, Int.neg_one_mul]
  have h4 : (-1 * (2 * a % P * i % P % P)) % P = (-1 * (2 * a * i % P)) % P := h2
  rw [h3, h3] at h4
  rw [h4, Int.neg_mul, Int.neg_mul]
set_option maxHeartbeats 3200000 in
set_option maxRecDepth 8000 in
theorem l07Reflect_any (P : Int) (A : Option Addr) (n c : Nat) (sq : List Int) (U : Option Addr) (cu : Nat) (u : List Int) (Y : Option Addr) (cy : Nat) (v : List Int) (w : World) (HP : isP P = true) (hn : n ≤ 6) (ha : Rd w A n (ints sq)) (hs : NumsL P sq) (hx : Rd w U n (ints u)) (hu : NumsL P u) (hy : Rd w Y n (ints v)) (hv : NumsL P v) (hne : ¬ pairL P sq u u = 0) :
    Calls Tryz.prog 432 #[.agg #[.int .i64 P, .slice A n c], .slice U n cu, .slice Y n cy] w fun e w' => ∃ A' c', e = .returned (.slice A' n c') ∧ MkI w w' A' n c' (rflL P sq u v) := by
  obtain ⟨hp3, hp2⟩ := isP_ge HP
  have hp : 2 ≤ P := by omega
  have ha1 := pairL_small hp sq u v
  have hb1 := pairL_small hp sq u u
  have hi1 := invF_small hp (pairL P sq u u)
  have HM1 := mul_two_small hp2 ha1 hi1
  have HSA := Lib.hid hs
  have HUA := Lib.hid hu
  have HVA := Lib.hid hv
  obtain ⟨R, hR⟩ : ∃ R, R = rflL P sq u v := ⟨_, rfl⟩
  have HR := Lib.hid hR
  have HPR := Lib.hid fun (w' : World) (h : Below w.heap.size w w') => l03Pair_any P A n c sq U cu u Y cy v w' hp hp2 hn (ha.below h) hs (hx.below h) hu (hy.below h) hv
  have HNR := Lib.hid fun (w' : World) (h : Below w.heap.size w w') => l03Pair_any P A n c sq U cu u U cu u w' hp hp2 hn (ha.below h) hs (hx.below h) hu (hx.below h) hu
  have HIN := Lib.hid fun (w' : World) => l01Inv_any P (pairL P sq u u) w' HP (by omega) (by omega)
  obtain ⟨f, hf⟩ : ∃ f, f = 2 * pairL P sq u v % P * invF P (pairL P sq u u) % P := ⟨_, rfl⟩
  have hf1 : 0 ≤ f ∧ f < P := by rw [hf]; exact ⟨Int.emod_nonneg _ (by omega), Int.emod_lt_of_pos _ (by omega)⟩
  have hk1 : 0 ≤ (-f) % P ∧ (-f) % P < P := ⟨Int.emod_nonneg _ (by omega), Int.emod_lt_of_pos _ (by omega)⟩
  have HPL := Lib.hid fun (w' : World) (h : Below w.heap.size w w') => l02Plus_any P Y n cy U n cu ((-f) % P) v u w' hp hp2 (by omega) (Nat.le_refl _) (hy.below h) hv (hx.below h) hu (by omega) (by omega)
  rw [show plusL P v u ((-f) % P) = R by rw [hf, hR]; exact rflL_mod sq u v] at HPL
  obtain ⟨a, hA⟩ : ∃ a, a = pairL P sq u v := ⟨_, rfl⟩
  obtain ⟨b, hB⟩ : ∃ b, b = pairL P sq u u := ⟨_, rfl⟩
  rw [← hB] at HNR HIN HM1 hi1 hb1 hne hf
  rw [← hA] at HPR HM1 ha1 hf
  obtain ⟨i, hi⟩ : ∃ i, i = invF P b := ⟨_, rfl⟩
  rw [← hi] at HIN HM1 hi1 hf
  have h2a : 0 ≤ 2 * a % P ∧ 2 * a % P < P := ⟨Int.emod_nonneg _ (by omega), Int.emod_lt_of_pos _ (by omega)⟩
  have h2i := mul_two_small hp2 h2a hi1
  have W1 := i64_fit (2 * a) (by omega) (by omega)
  have T1 := Int.tmod_eq_emod_of_nonneg (a := 2 * a) (b := P) (by omega)
  have W2 := i64_fit (2 * a % P * i) (by omega) (by omega)
  have T2 := Int.tmod_eq_emod_of_nonneg (a := 2 * a % P * i) (b := P) (by omega)
  have W3 := i64_fit (P - f) (by omega) (by omega)
  have T3 : (P - f).tmod P = (-f) % P := by rw [Int.tmod_eq_emod_of_nonneg (by omega), Int.sub_eq_add_neg, Int.add_emod, Int.emod_self, Int.zero_add, Int.emod_emod_of_dvd _ (Int.dvd_refl P)]
  have hP0 : ¬ P = 0 := by omega
  have HW := Lib.hid (And.intro W3 T3)
  have HF := Lib.hid hf
  have hB0 : Below w.heap.size w (w.alloc (.cells #[.int .i64 P, .slice A n c] 26)) := (Below.refl _ _).alloc (Nat.le_refl _) _
  have k0 : Blk (w.alloc (.cells #[.int .i64 P, .slice A n c] 26)) w.heap.size 26 #[.int .i64 P, .slice A n c] := Blk.new _ _ _
  obtain ⟨q0, q1⟩ := k0.two
  clear hA hB hi hR hs hu hv ha hx hy HP W3 T3 hf hk1 hf1
  go_enter Tryz.func432, Tryz.ntmps432
  go_wp2
  refine wp_obs 20 [[], [], [], [0, 1, 2], [0, 1, 2, 3], [], [5], [0, 1, 2, 3, 4, 5, 6], [], [8], [], [], [], [10, 11, 12], [8, 9, 10, 11, 12, 13], [0, 1, 2, 3, 4, 5, 6, 7, 8, 9, 10, 11, 12, 13, 14], [], [16], [0, 1, 2, 3, 4, 5, 6, 7, 8, 9, 10, 11, 12, 13, 14, 15, 16, 17], [0, 1, 2, 3, 4, 5, 6, 7, 8, 9, 10, 11, 12, 13, 14, 15, 16, 17, 18]] [VIs (.agg #[.int .i64 P, .slice A n c]), VIs (.slice U n cu), VIs (.slice Y n cy), VIs (.int .i64 (a)), VIs (.int .i64 (2 * a)), VIs (.pointer (some ⟨w.heap.size, 0, none⟩)), VIs (.int .i64 (P)), VIs (.int .i64 (2 * a % P)), VIs (.pointer (some ⟨w.heap.size, 0, none⟩)), VIs (.int .i64 (P)), VIs (.agg #[.int .i64 P, .slice A n c]), VIs (.slice U n cu), VIs (.slice U n cu), VIs (.int .i64 (b)), VIs (.int .i64 (i)), VIs (.int .i64 (2 * a % P * i)), VIs (.pointer (some ⟨w.heap.size, 0, none⟩)), VIs (.int .i64 (P)), VIs (.int .i64 (2 * a % P * i % P)), VIs (.int .i64 (2 * a % P * i % P))] (fun w' => Blk w' w.heap.size 26 #[.int .i64 P, .slice A n c] ∧ Below w.heap.size w w') (by kernel_rfl) (by kernel_rfl) (fun _ _ h hb => ⟨h.1.below hb h.1.lt, h.2.trans (hb.mono h.2.size)⟩) (⟨k0.drew, hB0.drew⟩) (fun x => ?_)
  refine obs_step (Eq.trans (by simp only [zA, zC]; exact rfl) rfl) rfl (fun w' hS hV K hK => ?_) ?_
  · obtain ⟨q0, q1⟩ := hS.1.two
    go_simp
    exact hK.out _ _ _ rfl rfl rfl (Below.refl _ _)
  simp only [zD, zE, zF]
  refine obs_step (Eq.trans (by simp only [zA, zB, zC]; exact rfl) rfl) rfl (fun w' hS hV K hK => ?_) ?_
  · obtain ⟨q0, q1⟩ := hS.1.two
    go_simp
    exact hK.out _ _ _ rfl rfl rfl (Below.refl _ _)
  simp only [zD, zE, zF]
  refine obs_step (Eq.trans (by simp only [zA, zB, zC]; exact rfl) rfl) rfl (fun w' hS hV K hK => ?_) ?_
  · obtain ⟨q0, q1⟩ := hS.1.two
    go_simp
    exact hK.out _ _ _ rfl rfl rfl (Below.refl _ _)
  simp only [zD, zE, zF]
  refine obs_step (Eq.trans (by simp only [zA, zB, zC]; exact rfl) rfl) rfl (fun w' hS hV K hK => ?_) ?_
  · have e0 : x 0 = (.agg #[.int .i64 P, .slice A n c]) := hV 0 (by decide)
    have e1 : x 1 = (.slice U n cu) := hV 1 (by decide)
    have e2 : x 2 = (.slice Y n cy) := hV 2 (by decide)
    obtain ⟨q0, q1⟩ := hS.1.two
    go_simp
    refine (HPR.out _ hS.2).mono ?_
    rintro e v1 ⟨rfl, hb⟩
    exact hK.out _ _ _ rfl rfl rfl hb
  simp only [zD, zE, zF]
  refine obs_step (Eq.trans (by simp only [zA, zB, zC]; exact rfl) rfl) rfl (fun w' hS hV K hK => ?_) ?_
  · have e3 : x 3 = (.int .i64 (a)) := hV 3 (by decide)
    obtain ⟨q0, q1⟩ := hS.1.two
    go_simp
    exact hK.out _ _ _ rfl rfl rfl (Below.refl _ _)
  simp only [zD, zE, zF]
  refine obs_step (Eq.trans (by simp only [zA, zB, zC]; exact rfl) rfl) rfl (fun w' hS hV K hK => ?_) ?_
  · obtain ⟨q0, q1⟩ := hS.1.two
    go_simp
    exact hK.out _ _ _ rfl rfl rfl (Below.refl _ _)
  simp only [zD, zE, zF]
  refine obs_step (Eq.trans (by simp only [zA, zB, zC]; exact rfl) rfl) rfl (fun w' hS hV K hK => ?_) ?_
  · have e5 : x 5 = (.pointer (some ⟨w.heap.size, 0, none⟩)) := hV 5 (by decide)
    obtain ⟨q0, q1⟩ := hS.1.two
    go_simp
    exact hK.out _ _ _ rfl rfl rfl (Below.refl _ _)
  simp only [zD, zE, zF]
  refine obs_step (Eq.trans (by simp only [zA, zB, zC]; exact rfl) rfl) rfl (fun w' hS hV K hK => ?_) ?_
  · have e4 : x 4 = (.int .i64 (2 * a)) := hV 4 (by decide)
    have e6 : x 6 = (.int .i64 (P)) := hV 6 (by decide)
    obtain ⟨q0, q1⟩ := hS.1.two
    go_simp
    exact hK.out _ _ _ rfl rfl rfl (Below.refl _ _)
  simp only [zD, zE, zF]
  refine obs_step (Eq.trans (by simp only [zA, zB, zC]; exact rfl) rfl) rfl (fun w' hS hV K hK => ?_) ?_
  · obtain ⟨q0, q1⟩ := hS.1.two
    go_simp
    exact hK.out _ _ _ rfl rfl rfl (Below.refl _ _)
  simp only [zD, zE, zF]
  refine obs_step (Eq.trans (by simp only [zA, zB, zC]; exact rfl) rfl) rfl (fun w' hS hV K hK => ?_) ?_
  · have e8 : x 8 = (.pointer (some ⟨w.heap.size, 0, none⟩)) := hV 8 (by decide)
    obtain ⟨q0, q1⟩ := hS.1.two
    go_simp
    exact hK.out _ _ _ rfl rfl rfl (Below.refl _ _)
  simp only [zD, zE, zF]
  refine obs_step (Eq.trans (by simp only [zA, zB, zC]; exact rfl) rfl) rfl (fun w' hS hV K hK => ?_) ?_
  · obtain ⟨q0, q1⟩ := hS.1.two
    go_simp
    exact hK.out _ _ _ rfl rfl rfl (Below.refl _ _)
  simp only [zD, zE, zF]
  refine obs_step (Eq.trans (by simp only [zA, zB, zC]; exact rfl) rfl) rfl (fun w' hS hV K hK => ?_) ?_
  · obtain ⟨q0, q1⟩ := hS.1.two
    go_simp
    exact hK.out _ _ _ rfl rfl rfl (Below.refl _ _)
  simp only [zD, zE, zF]
  refine obs_step (Eq.trans (by simp only [zA, zB, zC]; exact rfl) rfl) rfl (fun w' hS hV K hK => ?_) ?_
  · obtain ⟨q0, q1⟩ := hS.1.two
    go_simp
    exact hK.out _ _ _ rfl rfl rfl (Below.refl _ _)
  simp only [zD, zE, zF]
  refine obs_step (Eq.trans (by simp only [zA, zB, zC]; exact rfl) rfl) rfl (fun w' hS hV K hK => ?_) ?_
  · have e10 : x 10 = (.agg #[.int .i64 P, .slice A n c]) := hV 10 (by decide)
    have e11 : x 11 = (.slice U n cu) := hV 11 (by decide)
    have e12 : x 12 = (.slice U n cu) := hV 12 (by decide)
    obtain ⟨q0, q1⟩ := hS.1.two
    go_simp
    refine (HNR.out _ hS.2).mono ?_
    rintro e v1 ⟨rfl, hb⟩
    exact hK.out _ _ _ rfl rfl rfl hb
  simp only [zD, zE, zF]
  refine obs_step (Eq.trans (by simp only [zA, zB, zC]; exact rfl) rfl) rfl (fun w' hS hV K hK => ?_) ?_
  · have e9 : x 9 = (.int .i64 (P)) := hV 9 (by decide)
    have e13 : x 13 = (.int .i64 (b)) := hV 13 (by decide)
    obtain ⟨q0, q1⟩ := hS.1.two
    go_simp
    refine (HIN.out _).mono ?_
    rintro e v1 ⟨rfl, rfl⟩
    exact hK.out _ _ _ rfl rfl rfl (Below.refl _ _)
  simp only [zD, zE, zF]
  refine obs_step (Eq.trans (by simp only [zA, zB, zC]; exact rfl) rfl) rfl (fun w' hS hV K hK => ?_) ?_
  · have e7 : x 7 = (.int .i64 (2 * a % P)) := hV 7 (by decide)
    have e14 : x 14 = (.int .i64 (i)) := hV 14 (by decide)
    obtain ⟨q0, q1⟩ := hS.1.two
    go_simp
    exact hK.out _ _ _ rfl rfl rfl (Below.refl _ _)
  simp only [zD, zE, zF]
  refine obs_step (Eq.trans (by simp only [zA, zB, zC]; exact rfl) rfl) rfl (fun w' hS hV K hK => ?_) ?_
  · obtain ⟨q0, q1⟩ := hS.1.two
    go_simp
    exact hK.out _ _ _ rfl rfl rfl (Below.refl _ _)
  simp only [zD, zE, zF]
  refine obs_step (Eq.trans (by simp only [zA, zB, zC]; exact rfl) rfl) rfl (fun w' hS hV K hK => ?_) ?_
  · have e16 : x 16 = (.pointer (some ⟨w.heap.size, 0, none⟩)) := hV 16 (by decide)
    obtain ⟨q0, q1⟩ := hS.1.two
    go_simp
    exact hK.out _ _ _ rfl rfl rfl (Below.refl _ _)
  simp only [zD, zE, zF]
  refine obs_step (Eq.trans (by simp only [zA, zB, zC]; exact rfl) rfl) rfl (fun w' hS hV K hK => ?_) ?_
  · have e15 : x 15 = (.int .i64 (2 * a % P * i)) := hV 15 (by decide)
    have e17 : x 17 = (.int .i64 (P)) := hV 17 (by decide)
    obtain ⟨q0, q1⟩ := hS.1.two
    go_simp
    exact hK.out _ _ _ rfl rfl rfl (Below.refl _ _)
  simp only [zD, zE, zF]
  refine obs_step (Eq.trans (by simp only [zA, zB, zC]; exact rfl) rfl) rfl (fun w' hS hV K hK => ?_) ?_
  · have e18 : x 18 = (.int .i64 (2 * a % P * i % P)) := hV 18 (by decide)
    obtain ⟨q0, q1⟩ := hS.1.two
    go_simp
    exact hK.out _ _ _ rfl rfl rfl (Below.refl _ _)
  simp only [zD, zE, zF]
  refine fun w' hS hV => ?_
  have e0 : x 0 = (.agg #[.int .i64 P, .slice A n c]) := hV 0 (by decide)
  have e1 : x 1 = (.slice U n cu) := hV 1 (by decide)
  have e2 : x 2 = (.slice Y n cy) := hV 2 (by decide)
  have e3 : x 3 = (.int .i64 (a)) := hV 3 (by decide)
  have e4 : x 4 = (.int .i64 (2 * a)) := hV 4 (by decide)
  have e5 : x 5 = (.pointer (some ⟨w.heap.size, 0, none⟩)) := hV 5 (by decide)
  have e6 : x 6 = (.int .i64 (P)) := hV 6 (by decide)
  have e7 : x 7 = (.int .i64 (2 * a % P)) := hV 7 (by decide)
  have e8 : x 8 = (.pointer (some ⟨w.heap.size, 0, none⟩)) := hV 8 (by decide)
  have e9 : x 9 = (.int .i64 (P)) := hV 9 (by decide)
  have e10 : x 10 = (.agg #[.int .i64 P, .slice A n c]) := hV 10 (by decide)
  have e11 : x 11 = (.slice U n cu) := hV 11 (by decide)
  have e12 : x 12 = (.slice U n cu) := hV 12 (by decide)
  have e13 : x 13 = (.int .i64 (b)) := hV 13 (by decide)
  have e14 : x 14 = (.int .i64 (i)) := hV 14 (by decide)
  have e15 : x 15 = (.int .i64 (2 * a % P * i)) := hV 15 (by decide)
  have e16 : x 16 = (.pointer (some ⟨w.heap.size, 0, none⟩)) := hV 16 (by decide)
  have e17 : x 17 = (.int .i64 (P)) := hV 17 (by decide)
  have e18 : x 18 = (.int .i64 (2 * a % P * i % P)) := hV 18 (by decide)
  have e19 : x 19 = (.int .i64 (2 * a % P * i % P)) := hV 19 (by decide)
  simp only [e0, e1, e2, e3, e4, e5, e6, e7, e8, e9, e10, e11, e12, e13, e14, e15, e16, e17, e18, e19]
  clear e0 e1 e2 e3 e4 e5 e6 e7 e8 e9 e10 e11 e12 e13 e14 e15 e16 e17 e18 e19
  refine wpAny_done (by kernel_rfl) ?_ _
  have k1 := hS.1
  have HB1 := Lib.hid hS.2
  rw [← HF.out]
  obtain ⟨w1, rfl⟩ : ∃ W, W = w' := ⟨_, rfl⟩
  obtain ⟨W3, T3⟩ := HW.out
  clear hS q0 q1 W1 T1 W2 T2 k0 hB0
  obtain ⟨q0, q1⟩ := k1.two
  go_wp2
  refine wp_obs 13 [[], [0], [], [], [], [4], [], [4, 5, 6], [], [8], [4, 5, 6, 7, 8, 9], [0, 1, 2, 3, 4, 5, 6, 7, 8, 9, 10], [0, 1, 2, 3, 4, 5, 6, 7, 8, 9, 10, 11]] [VIs (.pointer (some ⟨w.heap.size, 0, none⟩)), VIs (.int .i64 (P)), VIs (.slice Y n cy), VIs (.slice U n cu), VIs (.pointer (some ⟨w.heap.size, 0, none⟩)), VIs (.int .i64 (P)), VIs (.int .i64 (f)), VIs (.int .i64 (P - f)), VIs (.pointer (some ⟨w.heap.size, 0, none⟩)), VIs (.int .i64 (P)), VIs (.int .i64 ((-f) % P)), VSl w n R, VSl w n R] (fun w' => Blk w' w.heap.size 26 #[.int .i64 P, .slice A n c] ∧ Below w1.heap.size w1 w') (by kernel_rfl) (by kernel_rfl) (fun _ _ h hb => ⟨h.1.below hb h.1.lt, h.2.trans (hb.mono h.2.size)⟩) (⟨k1.drew, (Below.refl _ _).drew⟩) (fun x => ?_)
  refine obs_step (Eq.trans (by simp only [zA, zC]; exact rfl) rfl) rfl (fun w' hS hV K hK => ?_) ?_
  · obtain ⟨q0, q1⟩ := hS.1.two
    go_simp
    exact hK.out _ _ _ rfl rfl rfl (Below.refl _ _)
  simp only [zD, zE, zF]
  refine obs_step (Eq.trans (by simp only [zA, zB, zC]; exact rfl) rfl) rfl (fun w' hS hV K hK => ?_) ?_
  · have e0 : x 0 = (.pointer (some ⟨w.heap.size, 0, none⟩)) := hV 0 (by decide)
    obtain ⟨q0, q1⟩ := hS.1.two
    go_simp
    exact hK.out _ _ _ rfl rfl rfl (Below.refl _ _)
  simp only [zD, zE, zF]
  refine obs_step (Eq.trans (by simp only [zA, zB, zC]; exact rfl) rfl) rfl (fun w' hS hV K hK => ?_) ?_
  · obtain ⟨q0, q1⟩ := hS.1.two
    go_simp
    exact hK.out _ _ _ rfl rfl rfl (Below.refl _ _)
  simp only [zD, zE, zF]
  refine obs_step (Eq.trans (by simp only [zA, zB, zC]; exact rfl) rfl) rfl (fun w' hS hV K hK => ?_) ?_
  · obtain ⟨q0, q1⟩ := hS.1.two
    go_simp
    exact hK.out _ _ _ rfl rfl rfl (Below.refl _ _)
  simp only [zD, zE, zF]
  refine obs_step (Eq.trans (by simp only [zA, zB, zC]; exact rfl) rfl) rfl (fun w' hS hV K hK => ?_) ?_
  · obtain ⟨q0, q1⟩ := hS.1.two
    go_simp
    exact hK.out _ _ _ rfl rfl rfl (Below.refl _ _)
  simp only [zD, zE, zF]
  refine obs_step (Eq.trans (by simp only [zA, zB, zC]; exact rfl) rfl) rfl (fun w' hS hV K hK => ?_) ?_
  · have e4 : x 4 = (.pointer (some ⟨w.heap.size, 0, none⟩)) := hV 4 (by decide)
    obtain ⟨q0, q1⟩ := hS.1.two
    go_simp
    exact hK.out _ _ _ rfl rfl rfl (Below.refl _ _)
  simp only [zD, zE, zF]
  refine obs_step (Eq.trans (by simp only [zA, zB, zC]; exact rfl) rfl) rfl (fun w' hS hV K hK => ?_) ?_
  · obtain ⟨q0, q1⟩ := hS.1.two
    go_simp
    exact hK.out _ _ _ rfl rfl rfl (Below.refl _ _)
  simp only [zD, zE, zF]
  refine obs_step (Eq.trans (by simp only [zA, zB, zC]; exact rfl) rfl) rfl (fun w' hS hV K hK => ?_) ?_
  · have e5 : x 5 = (.int .i64 (P)) := hV 5 (by decide)
    have e6 : x 6 = (.int .i64 (f)) := hV 6 (by decide)
    obtain ⟨q0, q1⟩ := hS.1.two
    go_simp
    exact hK.out _ _ _ rfl rfl rfl (Below.refl _ _)
  simp only [zD, zE, zF]
  refine obs_step (Eq.trans (by simp only [zA, zB, zC]; exact rfl) rfl) rfl (fun w' hS hV K hK => ?_) ?_
  · obtain ⟨q0, q1⟩ := hS.1.two
    go_simp
    exact hK.out _ _ _ rfl rfl rfl (Below.refl _ _)
  simp only [zD, zE, zF]
  refine obs_step (Eq.trans (by simp only [zA, zB, zC]; exact rfl) rfl) rfl (fun w' hS hV K hK => ?_) ?_
  · have e8 : x 8 = (.pointer (some ⟨w.heap.size, 0, none⟩)) := hV 8 (by decide)
    obtain ⟨q0, q1⟩ := hS.1.two
    go_simp
    exact hK.out _ _ _ rfl rfl rfl (Below.refl _ _)
  simp only [zD, zE, zF]
  refine obs_step (Eq.trans (by simp only [zA, zB, zC]; exact rfl) rfl) rfl (fun w' hS hV K hK => ?_) ?_
  · have e7 : x 7 = (.int .i64 (P - f)) := hV 7 (by decide)
    have e9 : x 9 = (.int .i64 (P)) := hV 9 (by decide)
    obtain ⟨q0, q1⟩ := hS.1.two
    go_simp
    exact hK.out _ _ _ rfl rfl rfl (Below.refl _ _)
  simp only [zD, zE, zF]
  refine obs_step (Eq.trans (by simp only [zA, zB, zC]; exact rfl) rfl) rfl (fun w' hS hV K hK => ?_) ?_
  · have e1 : x 1 = (.int .i64 (P)) := hV 1 (by decide)
    have e2 : x 2 = (.slice Y n cy) := hV 2 (by decide)
    have e3 : x 3 = (.slice U n cu) := hV 3 (by decide)
    have e10 : x 10 = (.int .i64 ((-f) % P)) := hV 10 (by decide)
    obtain ⟨q0, q1⟩ := hS.1.two
    go_simp
    refine (HPL.out _ (HB1.out.trans (hS.2.mono HB1.out.size))).mono ?_
    rintro e v1 ⟨A2, c2, rfl, hM⟩
    exact hK.out _ _ _ rfl rfl ⟨_, _, rfl, hM.after (HB1.out.trans (hS.2.mono HB1.out.size))⟩ hM.b
  simp only [zD, zE, zF]
  refine obs_step (Eq.trans (by simp only [zA, zB, zC]; exact rfl) rfl) rfl (fun w' hS hV K hK => ?_) ?_
  · obtain ⟨A11, c11, e11, h11⟩ := hV 11 (by decide)
    obtain ⟨q0, q1⟩ := hS.1.two
    go_simp
    exact hK.out _ _ _ rfl rfl ⟨_, _, rfl, h11⟩ (Below.refl _ _)
  simp only [zD, zE, zF]
  refine fun w' hS hV => ?_
  have e0 : x 0 = (.pointer (some ⟨w.heap.size, 0, none⟩)) := hV 0 (by decide)
  have e1 : x 1 = (.int .i64 (P)) := hV 1 (by decide)
  have e2 : x 2 = (.slice Y n cy) := hV 2 (by decide)
  have e3 : x 3 = (.slice U n cu) := hV 3 (by decide)
  have e4 : x 4 = (.pointer (some ⟨w.heap.size, 0, none⟩)) := hV 4 (by decide)
  have e5 : x 5 = (.int .i64 (P)) := hV 5 (by decide)
  have e6 : x 6 = (.int .i64 (f)) := hV 6 (by decide)
  have e7 : x 7 = (.int .i64 (P - f)) := hV 7 (by decide)
  have e8 : x 8 = (.pointer (some ⟨w.heap.size, 0, none⟩)) := hV 8 (by decide)
  have e9 : x 9 = (.int .i64 (P)) := hV 9 (by decide)
  have e10 : x 10 = (.int .i64 ((-f) % P)) := hV 10 (by decide)
  obtain ⟨A11, c11, e11, h11⟩ := hV 11 (by decide)
  obtain ⟨A12, c12, e12, h12⟩ := hV 12 (by decide)
  simp only [e0, e1, e2, e3, e4, e5, e6, e7, e8, e9, e10, e11, e12]
  clear e0 e1 e2 e3 e4 e5 e6 e7 e8 e9 e10 e11 e12
  refine wpAny_done (by kernel_rfl) ?_ _
  go_wp2
  go_ret
  exact ⟨_, _, rfl, HR.out ▸ h12⟩
end Go.Proofs.YtdbibmilicjllaaGreat
namespace Go.Proofs.YtdbibmilicjllaaGreat
section
variable {p : Int} {sq : List Int}
theorem cg_wit {p a b : Int} : a % p = b % p ↔ ∃ k, a = b + p * k := by
  constructor
  · intro h
    have h1 := Int.emod_add_mul_ediv a p
    have h2 := Int.emod_add_mul_ediv b p
    exact ⟨a / p - b / p, by grind⟩
  · rintro ⟨k, rfl⟩
    rw [Int.add_mul_emod_self_left]
end
end Go.Proofs.YtdbibmilicjllaaGreat
namespace Go.Proofs.YtdbibmilicjllaaGreat
section
variable {p : Int} {sq : List Int}
instance : Std.Associative (α := Cl p sq) (· + ·) := ⟨Cl.add_assoc⟩
instance : Std.Commutative (α := Cl p sq) (· + ·) := ⟨Cl.add_comm⟩
end
end Go.Proofs.YtdbibmilicjllaaGreat
namespace Go.Proofs.YtdbibmilicjllaaGreat
section
variable {p : Int} {sq : List Int}
theorem inv_one (hP : isP p = true) {a : Int} (h0 : 0 ≤ a ∧ a < p) (ha : a ≠ 0) : a * invF p a % p = 1 % p := by
  have h3 := (isP_ge hP).1
  have := inv_mod hP (a := a) (by rw [Int.emod_eq_of_lt h0.1 h0.2]; exact ha)
  rw [Int.emod_eq_of_lt h0.1 h0.2] at this
  rw [this, Int.emod_eq_of_lt (by omega) (by omega)]
theorem Cl.prod_append (hp : 0 < p) (a b : List (List Int)) : (Cl.prod hp (a ++ b) : Cl p sq) = Cl.prod hp a * Cl.prod hp b := by
  unfold Cl.prod
  rw [List.foldl_append]
  exact Cl.prod_from hp b _
end
end Go.Proofs.YtdbibmilicjllaaGreat
namespace Go.Proofs.YtdbibmilicjllaaGreat
open Go.RowKit
set_option maxHeartbeats 1600000 in
set_option maxRecDepth 8000 in
theorem l10Matrix_any (P : Int) (A : Option Addr) (n c : Nat) (sq : List Int) (X : Option Addr) (cx : Nat) (xs : List Int) (w : World) (hp : 2 ≤ P) (hp2 : P ≤ 13) (hn : n ≤ 6) (h0 : 0 < n) (ha : Rd w A n (ints sq)) (hs : NumsL P sq) (hx : Rd w X (pw n) (ints xs)) (hxs : NumsL P xs) (HP : isP P = true) :
    Calls Tryz.prog 319 #[.agg #[.int .i64 P, .slice A n c], .slice X (pw n) cx] w fun e w' => ∃ A' c', e = .returned (.slice A' n c') ∧ MkII w w' A' n c' (transL (colsL P sq n xs)) := by
  have hB0 : Below w.heap.size w (w.alloc (.cells #[.int .i64 P, .slice A n c] 26)) := (Below.refl _ _).alloc (Nat.le_refl _) _
  have k0 : Blk (w.alloc (.cells #[.int .i64 P, .slice A n c] 26)) w.heap.size 26 #[.int .i64 P, .slice A n c] := Blk.new _ _ _
  have k1 := k0.alloc (.cells #[] 24)
  have hM1 : MkII w ((w.alloc (.cells #[.int .i64 P, .slice A n c] 26)).alloc (.cells #[] 24)) (some ⟨w.heap.size + 1, 0, none⟩) 0 0 [] := by
    have := MkII.empty hB0
    simpa using this
  have hmk := make_i (P := Tryz.prog) 24 2 Tryz.underlying24 info_i n (by omega)
  clear k0 hB0
  go_enter Tryz.func319, Tryz.ntmps319
  go_wp2
  obtain ⟨w1, hw1⟩ : ∃ W, W = (w.alloc (.cells #[.int .i64 P, .slice A n c] 26)).alloc (.cells #[] 24) := ⟨_, rfl⟩
  rw [← hw1] at hM1 k1 ⊢
  clear hw1
  go_loopw [5, 6] (fun out i wr => ∃ (k : Nat) (A' : Option Addr) (c' : Nat), k ≤ n ∧ i = .int .i64 k ∧ out = .slice A' k c' ∧ MkII w wr A' k c' (tab k fun k => turnL P sq n xs (unitRow n k)) ∧ Blk wr w.heap.size 26 #[.int .i64 P, .slice A n c]) (fun _ i _ => n - (intOf i).toNat)
  case atStart => exact ⟨0, _, _, by omega, rfl, rfl, by simpa [tab] using hM1, k1⟩
  case round =>
    obtain ⟨k, A', c', hk, rfl, rfl, hM, hk2⟩ := hrel
    clear hM1 k1
    obtain ⟨q0, q1⟩ := hk2.two
    by_cases hlt : k < n
    · have hm1 := Mk.made (E := 2) (n := n) (z := .int .i64 0) (Below.refl wr.heap.size wr) (by simp only [maxLen]; omega)
      rw [ints_replicate] at hm1
      obtain ⟨u1, hc1⟩ := hm1.2.cellI hlt
      have hf1 := hm1.2.frozen_ k
      have hm2 := (hm1.set k (.int .i64 1)).1
      rw [ints_set, World.setCell_alloc_at _ _ _ _ _ rfl] at hm2
      have HM := Lib.hid hM
      have HK2 := Lib.hid hk2
      have HM2 := Lib.hid hm2
      have q0b := (hm2.b.cell (p := ⟨w.heap.size, 0, none⟩) hk2.lt).trans q0
      have q1b := (hm2.b.cell (p := ⟨w.heap.size, 1, none⟩) hk2.lt).trans q1
      have hBw := hM.b.trans (hm2.b.mono hM.b.size)
      have hcall := l10Turn_any P A n c sq X cx xs _ n (unitRow n k) _ hp hp2 hn (ha.below hBw) hs (hx.below hBw) hxs hm2.rd (unitRow_nums hp n k) HP
      clear hM hm1 hm2 hk2 hBw
      go_wp2_with fail
      refine hcall.mono ?_
      rintro e w5 ⟨A5, c5, rfl, hM5⟩
      have hM6 := hM5.after HM2.out.b
      have hk3 := HK2.out.below hM6.b HK2.out.lt
      have hM7 := HM.out.below hM6.b
      have hne := hM7.ne_blk hk3 (by decide)
      clear hcall hM5 q0 q1 q0b q1b hc1 hf1
      go_wp2_with (at_builtin; refine wpList_appRowG w wr _ rfl _ _ rfl A' k c' _ A5 n c5 _ HM.out hM6 (by omega) rfl ?_ ?_; (go_simp); intro A6 c6 w6 hM8 hg6 _)
      go_roundw
      case rel => exact ⟨k + 1, A6, c6, by omega, by go_num, rfl, by rw [tab_succ]; exact hM8, hk3.grown hg6 hne⟩
      case measure => simp [intOf]; omega
    · obtain rfl : k = n := by omega
      go_wp2_with fail
      refine (l02Turn_any P A' k c' (colsL P sq k xs) k _ h0 (by omega) (by omega) hM.rd (colsL_tab hp sq k xs)).mono ?_
      rintro e w5 ⟨A5, c5, rfl, hM5⟩
      go_wp2
      go_ret
      exact ⟨_, _, rfl, hM5.after hM.b⟩
set_option maxHeartbeats 1600000 in
set_option maxRecDepth 8000 in
theorem timesM_any (p : Int) (A : Option Addr) (n c : Nat) (M : List (List Int)) (B : Option Addr) (d : Nat) (N : List (List Int)) (w : World) (hp : 2 ≤ p) (hp2 : p ≤ 13) (h0 : 0 < n) (hn : n ≤ 65536) (ha : RdII w A n M) (hM : Tab p n M) (hb : RdII w B n N) (hN : Tab p n N) :
    Calls Tryz.prog 172 #[.int .i64 p, .slice A n c, .slice B n d] w fun e w' => ∃ A' c', e = .returned (.slice A' n c') ∧ MkII w w' A' n c' (timesM p M N) := by
  have HT := Lib.hid hM
  have HL := Lib.hid ha.len
  have HTT : Hid (Tab p n (transL N)) := Lib.hid (by have := transL_tab (show 0 < p by omega) hN; rwa [hb.len] at this)
  have hcall := transpose_any p B n d N n w h0 hn hn hb hN
  clear hM hN hb
  go_enter Tryz.func172, Tryz.ntmps172
  go_wp2_with fail
  refine hcall.mono ?_
  rintro e w1 ⟨T, cT, rfl, hT1⟩
  have hM0 : MkII w1 (w1.alloc (.cells #[] 24)) (some ⟨w1.heap.size, 0, none⟩) 0 0 [] := MkII.empty (Below.refl _ _)
  have HB1 := Lib.hid hT1.b
  have ha1 := ha.below hT1.b
  have hTr := hT1.rd
  clear hcall hT1 ha
  go_wp2
  go_loopw [8, 16] (fun out i wr => ∃ (k : Nat) (A' : Option Addr) (c' : Nat), k ≤ n ∧ i = .int .i64 k ∧ out = .slice A' k c' ∧ MkII w1 wr A' k c' (tab k fun i => applyL p (transL N) (M.getD i []))) (fun _ i _ => n - (intOf i).toNat)
  case atStart => exact ⟨0, _, _, by omega, rfl, rfl, by simpa [tab] using hM0⟩
  case round =>
    obtain ⟨k, A', c', hk, rfl, rfl, hM⟩ := hrel
    clear hM0
    by_cases hlt : k < n
    · obtain ⟨g, o, rfl, hxk, A1, c1, hcx, hr1, _⟩ := (ha1.below hM.b).at_ hlt
      obtain ⟨hl1, hn1⟩ := HT.out M[k] (List.getElem_mem hxk)
      rw [hl1] at hcx hr1
      have hap := apply_any p T n cT (transL N) A1 n c1 M[k] wr hp hp2 hn hn (hTr.below hM.b) HTT.out hr1 hn1
      have HV : Hid ((tab (k + 1) fun i => applyL p (transL N) (M.getD i [])) = (tab k fun i => applyL p (transL N) (M.getD i [])) ++ [applyL p (transL N) M[k]]) := Lib.hid (by rw [tab_succ, getD_of_lt [] hxk])
      have HM := Lib.hid hM
      clear hM hr1 hl1 hn1 hTr ha1
      go_wp2_with fail
      refine hap.mono ?_
      rintro e w5 ⟨A5, c5, rfl, hM5⟩
      clear hap
      go_wp2_with (at_builtin; refine wpList_appRow w1 wr _ rfl _ _ rfl A' k c' _ A5 n c5 _ HM.out hM5 (by omega) rfl ?_ ?_; (go_simp); intro A6 c6 w6 hM6)
      go_roundw
      case rel => exact ⟨k + 1, A6, c6, by omega, by go_num, rfl, by rw [HV.out]; exact hM6⟩
      case measure => simp [intOf]; omega
    · obtain rfl : k = n := by omega
      go_wp2
      go_ret
      exact ⟨_, _, rfl, by unfold timesM; rw [HL.out]; exact hM.after HB1.out⟩
end Go.Proofs.YtdbibmilicjllaaGreat
namespace Go.Proofs.YtdbibmilicjllaaGreat
open Go.RowKit
theorem timesM_row {p : Int} {n : Nat} {M N : List (List Int)} (h0 : 0 < n) (_hM : Tab p n M) (hN : Tab p n N) (hMl : M.length = n) (hNl : N.length = n) {i : Nat} (_hi : i < n) :
    applyL p (transL N) (M.getD i []) = tab n fun k => (sumTo n fun j => ent M i j * ent N j k) % p := by
  unfold applyL
  rw [transL_len hN (by omega)]
  refine tab_congr fun k hk => ?_
  have hrow : (transL N).getD k [] = tab n fun j => ent N j k := by
    unfold transL
    rw [(hN.row (show 0 < N.length by omega)).1, tab_getD hk [], hNl]
  rw [hrow]
  unfold dotL
  rw [tab_len]
  congr 1
  refine sumTo_congr fun j hj => ?_
  rw [tab_getD hj 0, Int.mul_comm]
  rfl
set_option maxHeartbeats 3200000 in
set_option maxRecDepth 8000 in
theorem l02Times_any (p : Int) (A : Option Addr) (n c : Nat) (M : List (List Int)) (B : Option Addr) (d : Nat) (N : List (List Int)) (w : World) (hp : 2 ≤ p) (hp2 : p ≤ 13) (h0 : 0 < n) (hn : n ≤ 65536) (ha : RdII w A n M) (hM : Tab p n M) (hb : RdII w B n N) (hN : Tab p n N) :
    Calls Tryz.prog 182 #[.int .i64 p, .slice A n c, .slice B n d] w fun e w' => ∃ A' c', e = .returned (.slice A' n c') ∧ MkII w w' A' n c' (timesM p M N) := by
  have HMT := Lib.hid hM
  have HNT := Lib.hid hN
  have HML := Lib.hid ha.len
  have HNL := Lib.hid hb.len
  have HROW : Hid (∀ i, i < n → applyL p (transL N) (M.getD i []) = tab n fun k => (sumTo n fun j => ent M i j * ent N j k) % p) := Lib.hid (fun i hi => timesM_row h0 hM hN ha.len hb.len hi)
  have hM0 : MkII w (w.alloc (.cells #[] 24)) (some ⟨w.heap.size, 0, none⟩) 0 0 [] := MkII.empty (Below.refl _ _)
  obtain ⟨g, o, rfl, _⟩ := ha.at_ h0
  obtain ⟨g3, o3, rfl, _⟩ := hb.at_ h0
  clear hM hN
  go_enter Tryz.func182, Tryz.ntmps182
  go_wp2
  obtain ⟨w1, hw1⟩ : ∃ W, W = w.alloc (.cells #[] 24) := ⟨_, rfl⟩
  rw [← hw1] at hM0 ⊢
  clear hw1
  go_loopw [7, 8] (fun out i wr => ∃ (i' : Nat) (A' : Option Addr) (c' : Nat), i' ≤ n ∧ i = .int .i64 i' ∧ out = .slice A' i' c' ∧ MkII w wr A' i' c' (tab i' fun i => applyL p (transL N) (M.getD i []))) (fun _ i _ => n - (intOf i).toNat)
  case atStart => exact ⟨0, _, _, by omega, rfl, rfl, by simpa [tab] using hM0⟩
  case round =>
    obtain ⟨i, A', c', hi, rfl, rfl, hM⟩ := hrel
    clear hM0
    obtain ⟨wo, rfl⟩ : ∃ W, W = wr := ⟨_, rfl⟩
    by_cases hlt : i < n
    · have hr0 := Mk.lit (E := 2) (Below.refl wo.heap.size wo) #[] (by simp)
      have hR0 : MkI wo (wo.alloc (.cells #[] 2)) (some ⟨wo.heap.size, 0, none⟩) 0 0 [] := by simpa [MkI, ints] using hr0
      have HM := Lib.hid hM
      clear hr0 hM
      go_wp2
      go_loopw [9, 10] (fun row k w2 => ∃ (k' : Nat) (A2 : Option Addr) (c2 : Nat), k' ≤ n ∧ k = .int .i64 k' ∧ row = .slice A2 k' c2 ∧ MkI wo w2 A2 k' c2 (tab k' fun k => (sumTo n fun j => ent M i j * ent N j k) % p)) (fun _ k _ => n - (intOf k).toNat)
      case atStart => exact ⟨0, _, _, by omega, rfl, rfl, by simpa [tab] using hR0⟩
      case round =>
        obtain ⟨k, A2, c2, hk, rfl, rfl, hR⟩ := hrel
        clear hR0
        obtain ⟨wm, rfl⟩ : ∃ W, W = wr := ⟨_, rfl⟩
        have hbb := HM.out.b.trans (hR.b.mono HM.out.b.size)
        obtain ⟨A0, c0, hcx0⟩ := (hb.below hbb).row0 h0 HNT.out
        have HR := Lib.hid hR
        by_cases hlk : k < n
        · have ha2 := ha.below hbb
          have hb2 := hb.below hbb
          clear hR hbb ha hb
          go_wp2
          clear hcx0
          go_loopw [11, 12] (fun s j w3 => ∃ j' : Nat, j' ≤ n ∧ j = .int .i64 j' ∧ s = .int .i64 ((sumTo j' fun j => ent M i j * ent N j k) % p) ∧ Below wm.heap.size wm w3) (fun _ j _ => n - (intOf j).toNat)
          case atStart => exact ⟨0, by omega, rfl, by simp [sumTo], Below.refl _ _⟩
          case round =>
            obtain ⟨j, hj, rfl, rfl, hB3⟩ := hrel
            have hstep := Lib.hid (sumTo_step p j fun j => ent M i j * ent N j k)
            have s1 := Int.emod_nonneg (sumTo j fun j => ent M i j * ent N j k) (show p ≠ 0 by omega)
            have s2 := Int.emod_lt_of_pos (sumTo j fun j => ent M i j * ent N j k) (show 0 < p by omega)
            have hend : Hid (j = n → (sumTo n fun j => ent M i j * ent N j k) % p = (sumTo j fun j => ent M i j * ent N j k) % p) := Lib.hid (fun h => by rw [h])
            obtain ⟨s, hs⟩ : ∃ s, s = (sumTo j fun j => ent M i j * ent N j k) % p := ⟨_, rfl⟩
            rw [← hs] at s1 s2 hstep hend ⊢
            clear hs
            by_cases hlj : j < n
            · obtain ⟨g', o', e', hxi, A1, c1, hcx1, hr1, _⟩ := (ha2.below hB3).at_ hlt
              injection e' with e'; injection e' with e1 e2 _
              subst e1; subst e2
              obtain ⟨hl1, hn1⟩ := HMT.out M[i] (List.getElem_mem hxi)
              rw [hl1] at hcx1 hr1
              obtain ⟨g2, o2, rfl, hxe1, hce1⟩ := hr1.int hlj
              obtain ⟨g', o', e', hxj, A3, c3, hcx2, hr3, _⟩ := (hb2.below hB3).at_ hlj
              injection e' with e'; injection e' with e1 e2 _
              subst e1; subst e2
              obtain ⟨hl3, hn3⟩ := HNT.out N[j] (List.getElem_mem hxj)
              rw [hl3] at hcx2 hr3
              obtain ⟨g4, o4, rfl, hxe3, hce2⟩ := hr3.int hlk
              obtain ⟨x1, x2⟩ := hn1 _ (List.getElem_mem hxe1)
              obtain ⟨y1, y2⟩ := hn3 _ (List.getElem_mem hxe3)
              obtain ⟨m1, m2⟩ := mul_small x1 (show M[i][j] ≤ 13 by omega) y1 (show N[j][k] ≤ 13 by omega)
              have HV : Hid ((sumTo (j + 1) fun j => ent M i j * ent N j k) % p = (s + M[i][j] * N[j][k]) % p) := Lib.hid (by rw [← hstep.out, ent_at hxi hxe1, ent_at hxj hxe3])
              have W1 := i64_fit (M[i][j] * N[j][k]) (by omega) (by omega)
              have W2 := i64_fit (s + M[i][j] * N[j][k]) (by omega) (by omega)
              have W3 : (s + M[i][j] * N[j][k]).tmod p = (s + M[i][j] * N[j][k]) % p := Int.tmod_eq_emod_of_nonneg (by omega)
              have hP0 : ¬ p = 0 := by omega
              have i1 : (0 : Int) ≤ (i : Int) := by omega
              have i2 : (i : Int) < (n : Int) := by omega
              have i3 : (0 : Int) ≤ (j : Int) := by omega
              have i4 : (j : Int) < (n : Int) := by omega
              have i5 : (0 : Int) ≤ (k : Int) := by omega
              have i6 : (k : Int) < (n : Int) := by omega
              clear hr1 hl1 hn1 hr3 hl3 hn3 ha2 hb2
              go_wp2
              refine wp_obs 19 [[], [], [], [1, 2], [1, 2, 3], [], [1, 2, 3, 4, 5], [1, 2, 3, 4, 5, 6], [], [], [8, 9], [8, 9, 10], [], [8, 9, 10, 11, 12], [8, 9, 10, 11, 12, 13], [1, 2, 3, 4, 5, 6, 7, 8, 9, 10, 11, 12, 13, 14], [0, 1, 2, 3, 4, 5, 6, 7, 8, 9, 10, 11, 12, 13, 14, 15], [], [0, 1, 2, 3, 4, 5, 6, 7, 8, 9, 10, 11, 12, 13, 14, 15, 16, 17], [0, 1, 2, 3, 4, 5, 6, 7, 8, 9, 10, 11, 12, 13, 14, 15, 16, 17, 18]] [VIs (.int .i64 (s)), VIs (.slice (some ⟨g, o, none⟩) n c), VIs (.int .i64 (i)), VIs (.pointer (some ⟨g, o + i, none⟩)), VIs (.slice (some ⟨g2, o2, none⟩) n c1), VIs (.int .i64 (j)), VIs (.pointer (some ⟨g2, o2 + j, none⟩)), VIs (.int .i64 (M[i][j])), VIs (.slice (some ⟨g3, o3, none⟩) n d), VIs (.int .i64 (j)), VIs (.pointer (some ⟨g3, o3 + j, none⟩)), VIs (.slice (some ⟨g4, o4, none⟩) n c3), VIs (.int .i64 (k)), VIs (.pointer (some ⟨g4, o4 + k, none⟩)), VIs (.int .i64 (N[j][k])), VIs (.int .i64 (M[i][j] * N[j][k])), VIs (.int .i64 (s + M[i][j] * N[j][k])), VIs (.int .i64 (p)), VIs (.int .i64 ((s + M[i][j] * N[j][k]) % p))] (fun w' => w'.cell? ⟨g, o + i, none⟩ = some (.slice (some ⟨g2, o2, none⟩) n c1) ∧ w'.cell? ⟨g2, o2 + j, none⟩ = some (.int .i64 M[i][j]) ∧ w'.cell? ⟨g3, o3 + j, none⟩ = some (.slice (some ⟨g4, o4, none⟩) n c3) ∧ w'.cell? ⟨g4, o4 + k, none⟩ = some (.int .i64 N[j][k]) ∧ Below wm.heap.size wm w') (by kernel_rfl) (by kernel_rfl) (fun _ _ h hb => ⟨(hb.cell (World.block_lt_of_cell? _ _ h.1)).trans h.1, (hb.cell (World.block_lt_of_cell? _ _ h.2.1)).trans h.2.1, (hb.cell (World.block_lt_of_cell? _ _ h.2.2.1)).trans h.2.2.1, (hb.cell (World.block_lt_of_cell? _ _ h.2.2.2.1)).trans h.2.2.2.1, h.2.2.2.2.trans (hb.mono h.2.2.2.2.size)⟩) (⟨hcx1, hce1, hcx2, hce2, hB3.drew⟩) (fun x => ?_)
              refine obs_step (Eq.trans (by simp only [zA, zC]; exact rfl) rfl) rfl (fun w' hS hV K hK => ?_) ?_
              · obtain ⟨q0, q1, q2, q3, _⟩ := hS
                go_simp
                exact hK.out _ _ _ rfl rfl rfl (Below.refl _ _)
              simp only [zD, zE, zF]
              refine obs_step (Eq.trans (by simp only [zA, zB, zC]; exact rfl) rfl) rfl (fun w' hS hV K hK => ?_) ?_
              · obtain ⟨q0, q1, q2, q3, _⟩ := hS
                go_simp
                exact hK.out _ _ _ rfl rfl rfl (Below.refl _ _)
              simp only [zD, zE, zF]
              refine obs_step (Eq.trans (by simp only [zA, zB, zC]; exact rfl) rfl) rfl (fun w' hS hV K hK => ?_) ?_
              · obtain ⟨q0, q1, q2, q3, _⟩ := hS
                go_simp
                exact hK.out _ _ _ rfl rfl rfl (Below.refl _ _)
              simp only [zD, zE, zF]
              refine obs_step (Eq.trans (by simp only [zA, zB, zC]; exact rfl) rfl) rfl (fun w' hS hV K hK => ?_) ?_
              · have e1 : x 1 = (.slice (some ⟨g, o, none⟩) n c) := hV 1 (by decide)
                have e2 : x 2 = (.int .i64 (i)) := hV 2 (by decide)
                obtain ⟨q0, q1, q2, q3, _⟩ := hS
                go_simp
                exact hK.out _ _ _ rfl rfl rfl (Below.refl _ _)
              simp only [zD, zE, zF]
              refine obs_step (Eq.trans (by simp only [zA, zB, zC]; exact rfl) rfl) rfl (fun w' hS hV K hK => ?_) ?_
              · have e3 : x 3 = (.pointer (some ⟨g, o + i, none⟩)) := hV 3 (by decide)
                obtain ⟨q0, q1, q2, q3, _⟩ := hS
                go_simp
                exact hK.out _ _ _ rfl rfl rfl (Below.refl _ _)
              simp only [zD, zE, zF]
              refine obs_step (Eq.trans (by simp only [zA, zB, zC]; exact rfl) rfl) rfl (fun w' hS hV K hK => ?_) ?_
              · obtain ⟨q0, q1, q2, q3, _⟩ := hS
                go_simp
                exact hK.out _ _ _ rfl rfl rfl (Below.refl _ _)
              simp only [zD, zE, zF]
              refine obs_step (Eq.trans (by simp only [zA, zB, zC]; exact rfl) rfl) rfl (fun w' hS hV K hK => ?_) ?_
              · have e4 : x 4 = (.slice (some ⟨g2, o2, none⟩) n c1) := hV 4 (by decide)
                have e5 : x 5 = (.int .i64 (j)) := hV 5 (by decide)
                obtain ⟨q0, q1, q2, q3, _⟩ := hS
                go_simp
                exact hK.out _ _ _ rfl rfl rfl (Below.refl _ _)
              simp only [zD, zE, zF]
              refine obs_step (Eq.trans (by simp only [zA, zB, zC]; exact rfl) rfl) rfl (fun w' hS hV K hK => ?_) ?_
              · have e6 : x 6 = (.pointer (some ⟨g2, o2 + j, none⟩)) := hV 6 (by decide)
                obtain ⟨q0, q1, q2, q3, _⟩ := hS
                go_simp
                exact hK.out _ _ _ rfl rfl rfl (Below.refl _ _)
              simp only [zD, zE, zF]
              refine obs_step (Eq.trans (by simp only [zA, zB, zC]; exact rfl) rfl) rfl (fun w' hS hV K hK => ?_) ?_
              · obtain ⟨q0, q1, q2, q3, _⟩ := hS
                go_simp
                exact hK.out _ _ _ rfl rfl rfl (Below.refl _ _)
              simp only [zD, zE, zF]
              refine obs_step (Eq.trans (by simp only [zA, zB, zC]; exact rfl) rfl) rfl (fun w' hS hV K hK => ?_) ?_
              · obtain ⟨q0, q1, q2, q3, _⟩ := hS
                go_simp
                exact hK.out _ _ _ rfl rfl rfl (Below.refl _ _)
              simp only [zD, zE, zF]
              refine obs_step (Eq.trans (by simp only [zA, zB, zC]; exact rfl) rfl) rfl (fun w' hS hV K hK => ?_) ?_
              · have e8 : x 8 = (.slice (some ⟨g3, o3, none⟩) n d) := hV 8 (by decide)
                have e9 : x 9 = (.int .i64 (j)) := hV 9 (by decide)
                obtain ⟨q0, q1, q2, q3, _⟩ := hS
                go_simp
                exact hK.out _ _ _ rfl rfl rfl (Below.refl _ _)
              simp only [zD, zE, zF]
              refine obs_step (Eq.trans (by simp only [zA, zB, zC]; exact rfl) rfl) rfl (fun w' hS hV K hK => ?_) ?_
              · have e10 : x 10 = (.pointer (some ⟨g3, o3 + j, none⟩)) := hV 10 (by decide)
                obtain ⟨q0, q1, q2, q3, _⟩ := hS
                go_simp
                exact hK.out _ _ _ rfl rfl rfl (Below.refl _ _)
              simp only [zD, zE, zF]
              refine obs_step (Eq.trans (by simp only [zA, zB, zC]; exact rfl) rfl) rfl (fun w' hS hV K hK => ?_) ?_
              · obtain ⟨q0, q1, q2, q3, _⟩ := hS
                go_simp
                exact hK.out _ _ _ rfl rfl rfl (Below.refl _ _)
              simp only [zD, zE, zF]
              refine obs_step (Eq.trans (by simp only [zA, zB, zC]; exact rfl) rfl) rfl (fun w' hS hV K hK => ?_) ?_
              · have e11 : x 11 = (.slice (some ⟨g4, o4, none⟩) n c3) := hV 11 (by decide)
                have e12 : x 12 = (.int .i64 (k)) := hV 12 (by decide)
                obtain ⟨q0, q1, q2, q3, _⟩ := hS
                go_simp
                exact hK.out _ _ _ rfl rfl rfl (Below.refl _ _)
              simp only [zD, zE, zF]
              refine obs_step (Eq.trans (by simp only [zA, zB, zC]; exact rfl) rfl) rfl (fun w' hS hV K hK => ?_) ?_
              · have e13 : x 13 = (.pointer (some ⟨g4, o4 + k, none⟩)) := hV 13 (by decide)
                obtain ⟨q0, q1, q2, q3, _⟩ := hS
                go_simp
                exact hK.out _ _ _ rfl rfl rfl (Below.refl _ _)
              simp only [zD, zE, zF]
              refine obs_step (Eq.trans (by simp only [zA, zB, zC]; exact rfl) rfl) rfl (fun w' hS hV K hK => ?_) ?_
              · have e7 : x 7 = (.int .i64 (M[i][j])) := hV 7 (by decide)
                have e14 : x 14 = (.int .i64 (N[j][k])) := hV 14 (by decide)
                obtain ⟨q0, q1, q2, q3, _⟩ := hS
                go_simp
                exact hK.out _ _ _ rfl rfl rfl (Below.refl _ _)
              simp only [zD, zE, zF]
              refine obs_step (Eq.trans (by simp only [zA, zB, zC]; exact rfl) rfl) rfl (fun w' hS hV K hK => ?_) ?_
              · have e0 : x 0 = (.int .i64 (s)) := hV 0 (by decide)
                have e15 : x 15 = (.int .i64 (M[i][j] * N[j][k])) := hV 15 (by decide)
                obtain ⟨q0, q1, q2, q3, _⟩ := hS
                go_simp
                exact hK.out _ _ _ rfl rfl rfl (Below.refl _ _)
              simp only [zD, zE, zF]
              refine obs_step (Eq.trans (by simp only [zA, zB, zC]; exact rfl) rfl) rfl (fun w' hS hV K hK => ?_) ?_
              · obtain ⟨q0, q1, q2, q3, _⟩ := hS
                go_simp
                exact hK.out _ _ _ rfl rfl rfl (Below.refl _ _)
              simp only [zD, zE, zF]
              refine obs_step (Eq.trans (by simp only [zA, zB, zC]; exact rfl) rfl) rfl (fun w' hS hV K hK => ?_) ?_
              · have e16 : x 16 = (.int .i64 (s + M[i][j] * N[j][k])) := hV 16 (by decide)
                have e17 : x 17 = (.int .i64 (p)) := hV 17 (by decide)
                obtain ⟨q0, q1, q2, q3, _⟩ := hS
                go_simp
                exact hK.out _ _ _ rfl rfl rfl (Below.refl _ _)
              simp only [zD, zE, zF]
              refine fun w' hS hV => ?_
              have e0 : x 0 = (.int .i64 (s)) := hV 0 (by decide)
              have e1 : x 1 = (.slice (some ⟨g, o, none⟩) n c) := hV 1 (by decide)
              have e2 : x 2 = (.int .i64 (i)) := hV 2 (by decide)
              have e3 : x 3 = (.pointer (some ⟨g, o + i, none⟩)) := hV 3 (by decide)
              have e4 : x 4 = (.slice (some ⟨g2, o2, none⟩) n c1) := hV 4 (by decide)
              have e5 : x 5 = (.int .i64 (j)) := hV 5 (by decide)
              have e6 : x 6 = (.pointer (some ⟨g2, o2 + j, none⟩)) := hV 6 (by decide)
              have e7 : x 7 = (.int .i64 (M[i][j])) := hV 7 (by decide)
              have e8 : x 8 = (.slice (some ⟨g3, o3, none⟩) n d) := hV 8 (by decide)
              have e9 : x 9 = (.int .i64 (j)) := hV 9 (by decide)
              have e10 : x 10 = (.pointer (some ⟨g3, o3 + j, none⟩)) := hV 10 (by decide)
              have e11 : x 11 = (.slice (some ⟨g4, o4, none⟩) n c3) := hV 11 (by decide)
              have e12 : x 12 = (.int .i64 (k)) := hV 12 (by decide)
              have e13 : x 13 = (.pointer (some ⟨g4, o4 + k, none⟩)) := hV 13 (by decide)
              have e14 : x 14 = (.int .i64 (N[j][k])) := hV 14 (by decide)
              have e15 : x 15 = (.int .i64 (M[i][j] * N[j][k])) := hV 15 (by decide)
              have e16 : x 16 = (.int .i64 (s + M[i][j] * N[j][k])) := hV 16 (by decide)
              have e17 : x 17 = (.int .i64 (p)) := hV 17 (by decide)
              have e18 : x 18 = (.int .i64 ((s + M[i][j] * N[j][k]) % p)) := hV 18 (by decide)
              simp only [e0, e1, e2, e3, e4, e5, e6, e7, e8, e9, e10, e11, e12, e13, e14, e15, e16, e17, e18]
              clear e0 e1 e2 e3 e4 e5 e6 e7 e8 e9 e10 e11 e12 e13 e14 e15 e16 e17 e18
              refine any_one (j := 19) (by kernel_rfl) (Eq.trans (by simp only [zA, zB, zC]; exact rfl) rfl) (fun K hK => ?_)
              go_simp
              refine hK.out _ _ (wpAny_done (by kernel_rfl) ?_ _)
              have hB4 := hS.2.2.2.2
              go_wp2
              go_roundw
              case rel => exact ⟨j + 1, by omega, by go_num, by rw [HV.out], hB4⟩
              case measure => simp [intOf]; omega
            · have HB3 := Lib.hid hB3
              have hR4 := HR.out.below hB3
              clear ha2 hb2
              go_wp2_with (at_builtin; refine wpList_app1 wo _ 24 2 _ _ Tryz.underlying24 info_i rfl (by omega) rfl _ _ rfl A2 k c2 _ _ hR4 (by omega) rfl rfl rfl ?_; intro A4 c4 w4 hM4 _ _)
              go_roundw
              case rel => exact ⟨k + 1, A4, c4, by omega, by go_num, rfl, by rw [tab_succ, hend.out (by omega)]; simpa [MkI, ints] using hM4⟩
              case measure => simp [intOf]; omega
        · obtain rfl : k = n := by omega
          clear hR ha hb
          go_wp2_with (at_builtin; refine wpList_appRow w wo _ rfl _ _ rfl A' i c' _ A2 k c2 _ HM.out HR.out (by omega) rfl ?_ ?_; (go_simp); intro A4 c4 w4 hM4)
          go_roundw
          case rel => exact ⟨i + 1, A4, c4, by omega, by go_num, rfl, by rw [tab_succ, HROW.out i hlt]; exact hM4⟩
          case measure => simp [intOf]; omega
    · go_wp2
      go_ret
      obtain rfl : i = n := by omega
      exact ⟨_, _, rfl, by unfold timesM; rw [HML.out]; exact hM⟩
end Go.Proofs.YtdbibmilicjllaaGreat
namespace Go.Proofs.YtdbibmilicjllaaGreat
open Go.RowKit
theorem dotL_small {p : Int} (hp : 0 < p) (a b : List Int) : 0 ≤ dotL p a b ∧ dotL p a b < p := ⟨Int.emod_nonneg _ (by omega), Int.emod_lt_of_pos _ hp⟩
theorem timesM_tab {p : Int} {n : Nat} {M N : List (List Int)} (hp : 0 < p) (h0 : 0 < n) (hN : Tab p n N) (hNl : N.length = n) : Tab p n (timesM p M N) :=
  Tab.tab fun _ _ => ⟨by unfold applyL; rw [tab_len, transL_len hN (by omega)], NumsL.tab fun _ _ => dotL_small hp _ _⟩
end Go.Proofs.YtdbibmilicjllaaGreat
namespace Go.Proofs.YtdbibmilicjllaaGreat
section
variable {p : Int} {sq : List Int}
/-- The multivector with 1 at one place. -/
def Cl.at_ (hp : 0 < p) (m : Nat) : Cl p sq := Cl.of hp fun q => if q = m then 1 else 0
end
end Go.Proofs.YtdbibmilicjllaaGreat
namespace Go.Proofs.YtdbibmilicjllaaGreat
/-- All squares 0. -/
abbrev zs (n : Nat) : List Int := List.replicate n 0
theorem zs_len (n : Nat) : (zs n).length = n := List.length_replicate
theorem zs_get (n i : Nat) : (zs n).getD i 0 = 0 := by
  rw [List.getD_eq_getElem?_getD, List.getElem?_replicate]; split <;> rfl
theorem comZ_apart (sq : List Int) {a b : Nat} (h : ∀ i, ¬ (bit b i = 1 ∧ bit a i = 1)) : ∀ k, comZ sq a b k = 1 := by
  intro k
  induction k with
  | zero => rfl
  | succ k ih => simp only [comZ]; rw [ih, if_neg (h k)]; rfl
theorem comZ_hit (n : Nat) {a b i : Nat} (h : bit b i = 1 ∧ bit a i = 1) : ∀ k, i < k → comZ (zs n) a b k = 0 := by
  intro k
  induction k with
  | zero => intro h; omega
  | succ k ih =>
    intro hk
    simp only [comZ]
    by_cases e : i = k
    · subst e; rw [if_pos h, zs_get, Int.mul_zero]
    · rw [ih (by omega), Int.zero_mul]
theorem and_zero_iff (a b : Nat) : (a &&& b = 0) ↔ ∀ i, ¬ (bit b i = 1 ∧ bit a i = 1) := by
  constructor
  · intro h i hi
    have := congrArg (fun x => x.testBit i) h
    simp only [Nat.testBit_and, Nat.zero_testBit, (bit_iff a i).1 hi.2, (bit_iff b i).1 hi.1] at this
    exact absurd this (by decide)
  · intro h
    refine Nat.eq_of_testBit_eq fun i => ?_
    rw [Nat.testBit_and, Nat.zero_testBit]
    cases ha : a.testBit i
    · rfl
    · cases hb : b.testBit i
      · rfl
      · exact absurd ⟨(bit_iff b i).2 hb, (bit_iff a i).2 ha⟩ (h i)
theorem facZ_apart {sq : List Int} {n a b : Nat} (hn : sq.length = n) (h : a &&& b = 0) : facZ sq a b = facZ (zs n) a b := by
  unfold facZ
  rw [hn, zs_len, comZ_apart sq ((and_zero_iff a b).1 h), comZ_apart (zs n) ((and_zero_iff a b).1 h)]
theorem facZ_hit {n a b : Nat} (ha : a < pw n) (h : ¬ a &&& b = 0) : facZ (zs n) a b = 0 := by
  unfold facZ
  rw [zs_len]
  have h1 : ¬ ∀ i, ¬ (bit b i = 1 ∧ bit a i = 1) := fun h2 => h ((and_zero_iff a b).2 h2)
  obtain ⟨i, hi⟩ := Classical.not_forall.1 h1
  have hi' := Classical.not_not.1 hi
  have hin : i < n := by
    rcases Nat.lt_or_ge i n with h | h
    · exact h
    · have := bit_high (b := a) (n := n) ha h
      rw [this] at hi'
      exact absurd hi'.2 (by decide)
  rw [comZ_hit n hi' n hin, Int.mul_zero]
section
variable {p : Int} {n : Nat}
/-- Outer products are products with all squares 0. -/
theorem wedge_mul {sq : List Int} (hn : sq.length = n) {xs ys : List Int} (hx : xs.length = pw n) (hy : ys.length = pw n) : wedgeL p sq xs ys = mulL p (zs n) xs ys := by
  refine list_ext_getD 0 (by rw [wedgeL_len, mulL_len]) fun m hm => ?_
  rw [wedgeL_len, hx] at hm
  unfold wedgeL mulL
  rw [prodL_getD p sq _ xs ys n m hx hy hm, prodL_getD p (zs n) _ xs ys n m hx hy hm]
  refine sumTo_mod p fun a ha => ?_
  unfold term
  by_cases h : a &&& (a ^^^ m) = 0
  · have hb : (fun a b : Nat => a &&& b == 0) a (a ^^^ m) = true := by show (a &&& (a ^^^ m) == 0) = true; rw [h]; rfl
    rw [if_pos hb, if_pos rfl, Int.mul_emod, fac_facZ, facZ_apart hn h, ← fac_facZ, ← Int.mul_emod]
  · rw [if_neg (by simpa using h), if_pos rfl, Int.mul_emod, fac_facZ, facZ_hit ha h, Int.zero_emod, Int.mul_zero, Int.zero_emod]
theorem wedge_cl' {sq : List Int} (hn : sq.length = n) (x y : Cl p (zs n)) : wedgeL p sq x.l y.l = (x * y).l := by
  rw [wedge_mul hn (x.len.trans (by rw [zs_len])) (y.len.trans (by rw [zs_len])), Cl.mul_l]
theorem bil_zs (u v : List Int) : bil (zs n) u v = 0 := by
  unfold bil
  exact sumTo_zero fun i _ => by rw [zs_get, Int.mul_zero]
theorem Cl.zz (hp : 0 < p) (hP : isP p = true) (v : List Int) : (Cl.vec hp v : Cl p (zs n)) * Cl.vec hp v = Cl.zero hp := by
  rw [Cl.vec_sq hp hP, bil_zs, Cl.zero_sm]
theorem Cl.za (hp : 0 < p) (u v : List Int) : (Cl.vec hp u : Cl p (zs n)) * Cl.vec hp v = (-1 : Int) * (Cl.vec hp v * Cl.vec hp u) := by
  have h := Cl.vec_anti hp u v (sq := zs n)
  rw [bil_zs, Int.mul_zero, Cl.zero_sm] at h
  have e := Cl.add_back ((Cl.vec hp u : Cl p (zs n)) * Cl.vec hp v) (Cl.vec hp v * Cl.vec hp u) 1
  rw [Cl.one_sm] at e
  rw [← e, h, Cl.add_comm, Cl.add_zero]
/-- A vector of the list times the product of the list is 0. -/
theorem Cl.in_prod (hp : 0 < p) (hP : isP p = true) : ∀ (L : List (List Int)) (v : List Int), v ∈ L → (Cl.vec hp v : Cl p (zs n)) * Cl.prod hp L = Cl.zero hp
  | [], v, h => by cases h
  | u :: L, v, h => by
    rw [Cl.prod_cons]
    rcases List.mem_cons.1 h with rfl | h
    · rw [← Cl.mul_assoc, Cl.zz hp hP, Cl.zero_mul]
    · rw [← Cl.mul_assoc, Cl.za, Cl.sm_mul, Cl.mul_assoc, Cl.in_prod hp hP L v h, Cl.mul_zero, ← Cl.zero_sm (Cl.one hp), Cl.sm_sm, Int.mul_zero]
theorem Cl.vec_sp (hp : 0 < p) {sq : List Int} {B : List (List Int)} {v : List Int} {c : Nat → Int} (h : ∀ q, q < sq.length → v.getD q 0 % p = (sumTo B.length fun i => c i * ent B i q) % p) :
    (Cl.vec hp v : Cl p sq) = Cl.sum hp B.length fun i => c i * Cl.vec hp (B.getD i []) := Cl.same fun m hm => by
  rw [Cl.vec_co hp v hm, Cl.sum_co hp _ hm]
  have e2 : (sumTo B.length fun i => (c i * Cl.vec hp (B.getD i []) : Cl p sq).co m) % p = (sumTo B.length fun i => c i * sumTo sq.length fun q => if m = 2 ^ q then (B.getD i []).getD q 0 else 0) % p :=
    sumTo_mod p fun i _ => by rw [Cl.sm_co _ _ hm, Int.mul_emod, Cl.vec_co hp _ hm, ← Int.mul_emod]
  rw [e2]
  rcases Classical.em (∃ q, q < sq.length ∧ m = 2 ^ q) with ⟨q, hq, rfl⟩ | hno
  · rw [sumTo_one q hq fun j _ hne => if_neg fun e => hne (pow_inj e).symm, if_pos rfl, h q hq]
    refine sumTo_mod p fun i _ => ?_
    rw [sumTo_one q hq fun j _ hne => if_neg fun e => hne (pow_inj e).symm, if_pos rfl]; rfl
  · rw [sumTo_zero fun q hq => if_neg fun e => hno ⟨q, hq, e⟩, sumTo_zero fun i _ => by rw [sumTo_zero fun q hq => if_neg fun e => hno ⟨q, hq, e⟩, Int.mul_zero]]
theorem Cl.sum_mul (hp : 0 < p) {sq : List Int} (y : Cl p sq) (f : Nat → Cl p sq) : ∀ k, Cl.sum hp k f * y = Cl.sum hp k fun i => f i * y := by
  intro k
  induction k with
  | zero => exact Cl.zero_mul hp y
  | succ k ih => show (Cl.sum hp k f + f k) * y = _; rw [Cl.add_mul, ih]; rfl
theorem Cl.sum_zero (hp : 0 < p) {sq : List Int} {f : Nat → Cl p sq} : ∀ k, (∀ i, i < k → f i = Cl.zero hp) → Cl.sum hp k f = Cl.zero hp
  | 0, _ => rfl
  | k + 1, h => by
    show Cl.sum hp k f + f k = _
    rw [Cl.sum_zero hp k fun i hi => h i (by omega), h k (by omega), Cl.add_zero]
/-- A vector of the span times the product is 0. -/
theorem Cl.span_prod (hp : 0 < p) (hP : isP p = true) {B : List (List Int)} {v : List Int} (h : Sp p n B fun q => v.getD q 0) : (Cl.vec hp v : Cl p (zs n)) * Cl.prod hp B = Cl.zero hp := by
  obtain ⟨c, hc⟩ := h
  rw [Cl.vec_sp hp (B := B) (c := c) (fun q hq => hc q (by rw [zs_len] at hq; exact hq)), Cl.sum_mul]
  refine Cl.sum_zero hp _ fun i hi => ?_
  rw [Cl.sm_mul, Cl.in_prod hp hP B _ (getD_mem [] hi), ← Cl.zero_sm (Cl.one hp), Cl.sm_sm, Int.mul_zero]
theorem wedges_prod {sq : List Int} (hn : sq.length = n) (hp : 0 < p) (h2 : 2 ≤ p) : ∀ (k : Nat) (L : List (List Int)), L.length = k → (∀ v ∈ L, NumsL p v) → wedgesL p sq n L = (Cl.prod hp L : Cl p (zs n)).l := by
  intro k
  induction k with
  | zero =>
    intro L h _
    rw [List.eq_nil_of_length_eq_zero h]
    show bladeL n 0 = (Cl.one hp : Cl p (zs n)).l
    rw [Cl.one_l h2, zs_len]
  | succ k ih =>
    intro L h hN
    have hne : L ≠ [] := fun e => by rw [e] at h; cases h
    rw [← List.dropLast_concat_getLast hne] at hN ⊢
    rw [wedgesL_snoc, Cl.prod_snoc, ih L.dropLast (by rw [List.length_dropLast]; omega) fun v hv => hN v (List.mem_append_left _ hv)]
    have hv := hN (L.getLast hne) (by simp)
    have e : vecTo n (L.getLast hne) n = (Cl.vec hp (L.getLast hne) : Cl p (zs n)).l := by rw [Cl.vec_l hp hv, zs_len]
    rw [e, wedge_cl' hn]
end
end Go.Proofs.YtdbibmilicjllaaGreat
namespace Go.Proofs.YtdbibmilicjllaaGreat
section
variable {p : Int} {n : Nat}
theorem Cl.zero_addz (x : Cl p (zs n)) (hp : 0 < p) : Cl.zero hp + x = x := by rw [Cl.add_comm, Cl.add_zero]
theorem Cl.sm_zero (hp : 0 < p) {sq : List Int} (k : Int) : k * (Cl.zero hp : Cl p sq) = Cl.zero hp := by
  rw [← Cl.zero_sm (Cl.one hp), Cl.sm_sm, Int.mul_zero]
theorem Cl.prod_at (hp : 0 < p) (h2 : 2 ≤ p) {B : List (List Int)} (hR : Red n B) (hT : Tab p n B) : (Cl.prod hp B : Cl p (zs n)).co (maskTo B B.length) = 1 := by
  unfold Cl.co
  rw [← wedges_prod (sq := zs n) (zs_len n) hp h2 B.length B rfl fun v hv => (hT v hv).2]
  have := wedges_at (P := p) h2 (zs n) hR B.length (Nat.le_refl _) _ (maskTo_lt hR _ (Nat.le_refl _)) (fun i hi => maskTo_bits B B.length (Nat.le_refl _) i hi)
  rwa [List.take_length, if_pos rfl] at this
theorem Cl.squeeze (hp : 0 < p) (hP : isP p = true) (v : List Int) : ∀ L : List (List Int), (Cl.vec hp v : Cl p (zs n)) * Cl.prod hp L * Cl.vec hp v = Cl.zero hp
  | [] => by
    show (Cl.vec hp v : Cl p (zs n)) * Cl.one hp * Cl.vec hp v = _
    rw [Cl.mul_one, Cl.zz hp hP]
  | u :: L => by
    rw [Cl.prod_cons, ← Cl.mul_assoc, Cl.za, Cl.sm_mul, Cl.sm_mul, Cl.mul_assoc (Cl.vec hp u), Cl.mul_assoc (Cl.vec hp u), Cl.squeeze hp hP v L, Cl.mul_zero, Cl.sm_zero]
theorem Cl.prod_in (hp : 0 < p) (hP : isP p = true) : ∀ (L : List (List Int)) (v : List Int), v ∈ L → (Cl.prod hp L : Cl p (zs n)) * Cl.vec hp v = Cl.zero hp
  | [], v, h => by cases h
  | u :: L, v, h => by
    rw [Cl.prod_cons]
    rcases List.mem_cons.1 h with rfl | h
    · exact Cl.squeeze hp hP v L
    · rw [Cl.mul_assoc, Cl.prod_in hp hP L v h, Cl.mul_zero]
theorem Cl.prod_set (hp : 0 < p) {sq : List Int} (L : List (List Int)) {i : Nat} (hi : i < L.length) (v : List Int) : (Cl.prod hp (L.set i v) : Cl p sq) = Cl.prod hp (L.take i) * (Cl.vec hp v * Cl.prod hp (L.drop (i + 1))) := by
  rw [List.set_eq_take_append_cons_drop, if_pos hi, Cl.prod_append, Cl.prod_cons]
theorem set_self (L : List (List Int)) {i : Nat} (hi : i < L.length) : L.set i (L.getD i []) = L := by
  refine list_ext_getD [] (by rw [List.length_set]) fun j _ => ?_
  rw [getD_set]
  by_cases h : i = j
  · subst h; rw [if_pos ⟨rfl, hi⟩]
  · rw [if_neg fun e => h e.1]
theorem Cl.prod_split (hp : 0 < p) {sq : List Int} (L : List (List Int)) {i : Nat} (hi : i < L.length) : (Cl.prod hp L : Cl p sq) = Cl.prod hp (L.take i) * (Cl.vec hp (L.getD i []) * Cl.prod hp (L.drop (i + 1))) := by
  rw [← Cl.prod_set hp L hi, set_self L hi]
theorem Cl.prod_rep' (hp : 0 < p) (hP : isP p = true) (L : List (List Int)) {i j : Nat} (hij : i < j) (hj : j < L.length) (h : L.getD i [] = L.getD j []) : (Cl.prod hp L : Cl p (zs n)) = Cl.zero hp := by
  have hm : L.getD j [] ∈ L.take j := by
    rw [← h, ← take_getD [] L hij]
    exact getD_mem [] (by rw [List.length_take]; omega)
  rw [Cl.prod_split hp L hj, ← Cl.mul_assoc, Cl.prod_in hp hP _ _ hm, Cl.zero_mul]
theorem Cl.prod_rep (hp : 0 < p) (hP : isP p = true) (L : List (List Int)) {i j : Nat} (hij : i ≠ j) (hi : i < L.length) (hj : j < L.length) (h : L.getD i [] = L.getD j []) : (Cl.prod hp L : Cl p (zs n)) = Cl.zero hp := by
  rcases Nat.lt_or_gt_of_ne hij with h1 | h1
  · exact Cl.prod_rep' hp hP L h1 hj h
  · exact Cl.prod_rep' hp hP L h1 hi h.symm
theorem Cl.set_plus (hp : 0 < p) {sq : List Int} (L : List (List Int)) {j : Nat} (hj : j < L.length) {a : List Int} (b : List Int) (ha : a.length = sq.length) (k : Int) :
    (Cl.prod hp (L.set j (plusL p a b k)) : Cl p sq) = Cl.prod hp (L.set j a) + k * Cl.prod hp (L.set j b) := by
  rw [Cl.prod_set hp L hj, Cl.prod_set hp L hj, Cl.prod_set hp L hj, Cl.vec_plus hp ha, Cl.add_mul, Cl.mul_add, Cl.sm_mul, Cl.mul_sm]
theorem Cl.set_scale (hp : 0 < p) {sq : List Int} (L : List (List Int)) {j : Nat} (hj : j < L.length) {a : List Int} (ha : a.length = sq.length) (k : Int) :
    (Cl.prod hp (L.set j (scaleL p a k)) : Cl p sq) = k * Cl.prod hp (L.set j a) := by
  rw [Cl.prod_set hp L hj, Cl.prod_set hp L hj, Cl.vec_scale hp ha, Cl.sm_mul, Cl.mul_sm]
/-- A multiple of another row. -/
theorem Cl.prod_plus (hp : 0 < p) (hP : isP p = true) {L : List (List Int)} (hT : Tab p n L) {j d : Nat} (hj : j < L.length) (hd : d < L.length) (hjd : j ≠ d) (k : Int) :
    (Cl.prod hp (L.set j (plusL p (L.getD j []) (L.getD d []) k)) : Cl p (zs n)) = Cl.prod hp L := by
  rw [Cl.set_plus hp L hj _ ((hT.row hj).1.trans (zs_len n).symm), set_self L hj, Cl.prod_rep hp hP (L.set j (L.getD d [])) hjd (by rw [List.length_set]; exact hj) (by rw [List.length_set]; exact hd) (by
    rw [getD_set, if_pos ⟨rfl, hj⟩, getD_set, if_neg fun e => hjd e.1]), Cl.sm_zero, Cl.add_zero]
/-- Two rows exchanged. -/
theorem Cl.prod_swap (hp : 0 < p) (hP : isP p = true) {L : List (List Int)} (hT : Tab p n L) {i j : Nat} (hi : i < L.length) (hj : j < L.length) (hij : i ≠ j) :
    (Cl.prod hp (swapL L i j) : Cl p (zs n)) = (-1 : Int) * Cl.prod hp L := by
  obtain ⟨a, ha⟩ : ∃ a, a = L.getD i [] := ⟨_, rfl⟩
  obtain ⟨b, hb⟩ : ∃ b, b = L.getD j [] := ⟨_, rfl⟩
  have la : a.length = (zs n).length := by rw [ha, (hT.row hi).1, zs_len]
  obtain ⟨s, hs⟩ : ∃ s, s = plusL p a b 1 := ⟨_, rfl⟩
  have rep : ∀ v : List Int, (Cl.prod hp ((L.set i v).set j v) : Cl p (zs n)) = Cl.zero hp := fun v =>
    Cl.prod_rep hp hP _ hij (by rw [List.length_set, List.length_set]; exact hi) (by rw [List.length_set, List.length_set]; exact hj) (by
      rw [getD_set, if_neg fun e => hij e.1.symm, getD_set, if_pos ⟨rfl, hi⟩, getD_set, if_pos ⟨rfl, by rw [List.length_set]; exact hj⟩])
  have comm : ∀ u v : List Int, (L.set i u).set j v = (L.set j v).set i u := fun u v => List.set_comm u v hij
  have e1 := rep s
  have l1 : j < (L.set i s).length := by rw [List.length_set]; exact hj
  have l2 : ∀ v, i < (L.set j v).length := fun v => by rw [List.length_set]; exact hi
  have e2 : (Cl.prod hp ((L.set i s).set j s) : Cl p (zs n)) = Cl.prod hp ((L.set i s).set j a) + (1 : Int) * Cl.prod hp ((L.set i s).set j b) := by
    have h9 := Cl.set_plus hp (L.set i s) l1 b la 1
    rw [← hs] at h9
    exact h9
  have e3 : ∀ v, (Cl.prod hp ((L.set i s).set j v) : Cl p (zs n)) = Cl.prod hp ((L.set i a).set j v) + (1 : Int) * Cl.prod hp ((L.set i b).set j v) := fun v => by
    rw [comm s v, hs, Cl.set_plus hp _ (l2 v) b la 1, ← comm a v, ← comm b v]
  rw [e2, e3 a, e3 b, rep a, rep b, Cl.zero_addz, Cl.one_sm, Cl.one_sm, Cl.one_sm, Cl.add_zero] at e1
  have e4 : (L.set i a).set j b = L := by rw [ha, set_self L hi, hb, set_self L hj]
  have e5 : swapL L i j = (L.set i b).set j a := by unfold swapL; rw [← ha, ← hb]
  rw [e4] at e1
  rw [e5]
  have h := Cl.add_back (Cl.prod hp ((L.set i b).set j a) : Cl p (zs n)) (Cl.prod hp L) 1
  rw [Cl.one_sm, e1, Cl.zero_addz] at h
  exact h.symm
theorem Cl.prod_clear (hp : 0 < p) (hP : isP p = true) {m : List (List Int)} (hT : Tab p n m) {d k : Nat} (hd : d < m.length) : ∀ j, j ≤ m.length → (Cl.prod hp (clearTo p m d k j) : Cl p (zs n)) = Cl.prod hp m := by
  intro j
  induction j with
  | zero => intro _; rw [clearTo_zero]
  | succ j ih =>
    intro hj
    by_cases h : j = d
    · subst h; rw [clearTo_skip]; exact ih (by omega)
    · rw [clearTo_succ p m d k j (by omega) h]
      have e1 : m.getD j [] = (clearTo p m d k j).getD j [] := by rw [clearTo_getD (by omega), if_neg (by omega)]
      have e2 : m.getD d [] = (clearTo p m d k j).getD d [] := by rw [clearTo_getD hd, if_neg (by omega)]
      rw [e1, e2, Cl.prod_plus hp hP (clearTo_tab hp hT d k j) (by rw [clearTo_len]; omega) (by rw [clearTo_len]; exact hd) h]
      exact ih (by omega)
/-- The sign of an exchange. -/
def swSg (i j : Nat) : Int := if i = j then 1 else -1
theorem swapL_self (L : List (List Int)) {i : Nat} (hi : i < L.length) : swapL L i i = L := by
  unfold swapL; rw [set_self L hi, set_self L hi]
theorem Cl.prod_swap' (hp : 0 < p) (hP : isP p = true) {L : List (List Int)} (hT : Tab p n L) {i j : Nat} (hi : i < L.length) (hj : j < L.length) :
    (Cl.prod hp (swapL L i j) : Cl p (zs n)) = swSg i j * Cl.prod hp L := by
  unfold swSg
  by_cases h : i = j
  · subst h; rw [if_pos rfl, swapL_self L hi, Cl.one_sm]
  · rw [if_neg h, Cl.prod_swap hp hP hT hi hj h]
theorem Cl.prod_scaled (hp : 0 < p) (hP : isP p = true) {m : List (List Int)} (hT : Tab p n m) {k d : Nat} (hd : d < m.length) (hv : pivOf m k d < m.length) :
    (Cl.prod hp (scaledAt p m k d) : Cl p (zs n)) = (invF p (ent m (pivOf m k d) k) * swSg d (pivOf m k d)) * Cl.prod hp m := by
  unfold scaledAt
  have hl : d < (swapL m d (pivOf m k d)).length := by rw [swapL_len]; exact hd
  rw [Cl.set_scale hp _ hl ((hT.row hv).1.trans (zs_len n).symm)]
  have e : (swapL m d (pivOf m k d)).set d (m.getD (pivOf m k d) []) = swapL m d (pivOf m k d) := by
    have : (swapL m d (pivOf m k d)).getD d [] = m.getD (pivOf m k d) [] := by
      unfold swapL
      rw [getD_set]
      by_cases h : pivOf m k d = d
      · rw [if_pos ⟨h, by rw [List.length_set]; exact hv⟩, h]
      · rw [if_neg fun e => h e.1, getD_set, if_pos ⟨rfl, hd⟩]
    rw [← this, set_self _ hl]
  rw [e, Cl.prod_swap' hp hP hT hd hv, Cl.sm_sm]
theorem unit_inv (hP : isP p = true) {a : Int} (h0 : 0 ≤ a ∧ a < p) (ha : a ≠ 0) : invF p a % p ≠ 0 := fun h => by
  have h1 := inv_one hP h0 ha
  have h3 := (isP_ge hP).1
  rw [Int.mul_emod, h, Int.mul_zero, Int.zero_emod, Int.emod_eq_of_lt (by omega) (by omega)] at h1
  exact absurd h1 (by decide)
theorem swSg_ne (hP : isP p = true) (i j : Nat) : swSg i j % p ≠ 0 := by
  have h3 := isP_ge hP
  unfold swSg
  split
  · rw [Int.emod_eq_of_lt (by omega) (by omega)]; decide
  · intro h
    have h1 : (-1 : Int) % p = p - 1 := by
      rw [← Int.add_emod_right (a := -1), show (-1 : Int) + p = p - 1 by omega, Int.emod_eq_of_lt (by omega) (by omega)]
    omega
theorem Cl.prod_step (hp : 0 < p) (hP : isP p = true) {s : List (List Int) × Nat} {k : Nat} (hT : Tab p n s.1) (hd : s.2 ≤ s.1.length) :
    ∃ c : Int, c % p ≠ 0 ∧ (Cl.prod hp (stepB p k s).1 : Cl p (zs n)) = c * Cl.prod hp s.1 := by
  have h3 := isP_ge hP
  unfold stepB
  by_cases h : pivOf s.1 k s.2 = s.1.length
  · rw [if_pos h]
    exact ⟨1, by rw [Int.emod_eq_of_lt (by omega) (by omega)]; decide, (Cl.one_sm _).symm⟩
  · rw [if_neg h]
    obtain ⟨hb1, hb2⟩ := pivOf_bound s.1 k s.2 hd
    have hx : ent s.1 (pivOf s.1 k s.2) k ≠ 0 := piv_at s.1 k _ _ (by unfold pivOf at h hb2; omega)
    have hl : (scaledAt p s.1 k s.2).length = s.1.length := scaledAt_len _ _ _ _
    have hst := scaledAt_tab (p := p) (k := k) hp hT (show s.2 < s.1.length by omega) (by omega)
    refine ⟨invF p (ent s.1 (pivOf s.1 k s.2) k) * swSg s.2 (pivOf s.1 k s.2), ?_, ?_⟩
    rotate_left
    · show (Cl.prod hp (clearTo p (scaledAt p s.1 k s.2) s.2 k s.1.length) : Cl p (zs n)) = _
      rw [Cl.prod_clear hp hP hst (by rw [hl]; omega) _ (by rw [hl]; exact Nat.le_refl _), Cl.prod_scaled hp hP hT (by omega) (by omega)]
    · exact mul_ne hP (unit_inv hP (hT.ent hp _ _) hx) (swSg_ne hP _ _)
theorem Cl.prod_basisTo (hp : 0 < p) (hP : isP p = true) {m : List (List Int)} (hT : Tab p n m) : ∀ k, ∃ c : Int, c % p ≠ 0 ∧ (Cl.prod hp (basisTo p m k).1 : Cl p (zs n)) = c * Cl.prod hp m := by
  have h3 := isP_ge hP
  intro k
  induction k with
  | zero => exact ⟨1, by rw [Int.emod_eq_of_lt (by omega) (by omega)]; decide, (Cl.one_sm _).symm⟩
  | succ k ih =>
    obtain ⟨c, hc, e⟩ := ih
    obtain ⟨t1, t2, t3⟩ := basisTo_inv hp m hT k
    obtain ⟨d, hd, e2⟩ := Cl.prod_step hp hP (s := basisTo p m k) (k := k) t1 (by omega)
    refine ⟨d * c, mul_ne hP hd hc, ?_⟩
    show (Cl.prod hp (stepB p k (basisTo p m k)).1 : Cl p (zs n)) = _
    rw [e2, e, Cl.sm_sm]
theorem Cl.sm_inv {sq : List Int} (hP : isP p = true) {c : Int} (hc : c % p ≠ 0) {x y : Cl p sq} (h : x = c * y) : y = invF p (c % p) * x := by
  rw [h, Cl.sm_sm]
  have h1 := inv_mod hP hc
  rw [Int.mul_comm] at h1
  rw [Cl.sm_cg (k := invF p (c % p) * c) (j := 1) (by rw [h1, Int.emod_eq_of_lt] <;> have := isP_ge hP <;> omega), Cl.one_sm]
theorem Cl.vec_none (hp : 0 < p) {sq : List Int} {v : List Int} (h : ∀ q, q < sq.length → v.getD q 0 % p = 0) : (Cl.vec hp v : Cl p sq) = Cl.zero hp := Cl.same fun m hm => by
  rw [Cl.vec_co hp v hm, Cl.zero_co hp hm]
  refine (sumTo_mod p (g := fun _ => 0) fun i hi => ?_).trans (by rw [sumTo_zero fun _ _ => rfl]; rfl)
  split
  · rw [h i hi]; rfl
  · rfl
/-- The product of vectors is 0 or a multiple of that of their reduced basis, which has as many. -/
theorem Cl.prod_basis (hp : 0 < p) (hP : isP p = true) {m : List (List Int)} (hT : Tab p n m) :
    (Cl.prod hp m : Cl p (zs n)) = Cl.zero hp ∨ ((basisL p m).length = m.length ∧ ∃ c : Int, c % p ≠ 0 ∧ (Cl.prod hp m : Cl p (zs n)) = c * Cl.prod hp (basisL p m)) := by
  have h3 := isP_ge hP
  by_cases h0 : 0 < m.length
  · have hl := row0_len hT h0
    obtain ⟨c, hc, e⟩ := Cl.prod_basisTo hp hP hT n
    obtain ⟨t1, t2, t3⟩ := basisTo_inv hp m hT n
    obtain ⟨ec, hE⟩ := basisTo_ech hP m hT n (Nat.le_refl _)
    have ei := Cl.sm_inv hP hc e
    have hinv : invF p (c % p) % p ≠ 0 := unit_inv hP ⟨Int.emod_nonneg _ (by omega), Int.emod_lt_of_pos _ (by omega)⟩ hc
    by_cases hfull : (basisTo p m n).2 = m.length
    · refine Or.inr ⟨?_, _, hinv, ?_⟩
      · rw [(basisL_len hp m hT).1, hl, hfull]
      · have e4 : basisL p m = (basisTo p m n).1 := by unfold basisL; rw [hl, hfull, ← t2, List.take_length]
        rw [e4]; exact ei
    · refine Or.inl ?_
      have hd : (basisTo p m n).2 < (basisTo p m n).1.length := by omega
      rw [ei, Cl.prod_split hp _ hd, Cl.vec_none hp (v := (basisTo p m n).1.getD (basisTo p m n).2 []) (fun q hq => ?_), Cl.zero_mul, Cl.mul_zero, Cl.sm_zero]
      rw [zs_len] at hq
      have := hE.rest _ (Nat.le_refl _) hd q hq
      unfold ent at this
      rw [this]; rfl
  · obtain rfl : m = [] := List.eq_nil_of_length_eq_zero (by omega)
    rw [basisL_nil]
    exact Or.inr ⟨rfl, 1, by rw [Int.emod_eq_of_lt (by omega) (by omega)]; decide, (Cl.one_sm _).symm⟩
end
end Go.Proofs.YtdbibmilicjllaaGreat
namespace Go.Proofs.YtdbibmilicjllaaGreat
/-- Rows none of which is a sum of multiples of others. -/
def Ind (p : Int) (n : Nat) (L : List (List Int)) : Prop := ∀ c : Nat → Int, (∀ q, q < n → (sumTo L.length fun i => c i * ent L i q) % p = 0) → ∀ i, i < L.length → c i % p = 0
section
variable {p : Int} {n : Nat}
theorem Red.ind {B : List (List Int)} (hR : Red n B) : Ind p n B := fun c hc i hi => by
  have h := hc _ (hR.lt i hi)
  rwa [sumTo_one (f := fun j => c j * ent B j (ld B i)) i hi (fun j hj hne => by rw [hR.zero i j hi hj hne, Int.mul_zero]), hR.one i hi, Int.mul_one] at h
/-- Leads that fill the first places. -/
theorem Red.fills {B : List (List Int)} (hR : Red n B) {N : Nat} (h : ∀ f, f < N → isLd B f = true) : N ≤ B.length := by
  have key : ∀ f, f < N → ∃ i, i < B.length ∧ ld B i = f ∧ f ≤ i := by
    intro f
    induction f with
    | zero => intro h0; obtain ⟨i, hi, e⟩ := isLd_iff.1 (h 0 h0); exact ⟨i, hi, e, Nat.zero_le _⟩
    | succ f ih =>
      intro hf
      obtain ⟨i, hi, e, hle⟩ := ih (by omega)
      obtain ⟨j, hj, e2⟩ := isLd_iff.1 (h (f + 1) hf)
      refine ⟨j, hj, e2, ?_⟩
      rcases Nat.lt_trichotomy i j with hl | hl | hl
      · omega
      · subst hl; omega
      · have := hR.mono j i hl hi; omega
  rcases Nat.eq_zero_or_pos N with rfl | hN
  · exact Nat.zero_le _
  · obtain ⟨i, hi, -, hle⟩ := key (N - 1) (by omega)
    omega
/-- Independent vectors that others make are no more than these. -/
theorem Ind.le (hP : isP p = true) {L M : List (List Int)} (hI : Ind p n L) (hS : InSp p n L M) : L.length ≤ M.length := by
  have hp : 2 ≤ p := by have := isP_ge hP; omega
  refine Classical.byContradiction fun hlt => ?_
  have hch : ∀ i, ∃ a : Nat → Int, i < L.length → ∀ q, q < n → ent L i q % p = (sumTo M.length fun j => a j * ent M j q) % p := fun i => by
    by_cases hi : i < L.length
    · obtain ⟨a, ha⟩ := hS i hi; exact ⟨a, fun _ => ha⟩
    · exact ⟨fun _ => 0, fun h => absurd h hi⟩
  obtain ⟨a, ha⟩ := Classical.axiomOfChoice hch
  obtain ⟨A, hA⟩ : ∃ A : List (List Int), A = tab M.length fun j => tab L.length fun i => a i j % p := ⟨_, rfl⟩
  have hAl : A.length = M.length := by rw [hA, tab_len]
  have hAT : Tab p L.length A := by
    rw [hA]
    exact Tab.tab fun j _ => ⟨tab_len _ _, NumsL.tab fun i _ => ⟨Int.emod_nonneg _ (by omega), Int.emod_lt_of_pos _ (by omega)⟩⟩
  have hAe : ∀ j i, j < M.length → i < L.length → ent A j i = a i j % p := fun j i hj hi => by
    unfold ent; rw [hA, tab_getD hj, tab_getD hi]
  have hR := basisL_red hP A hAT
  have hRl := (basisL_len (p := p) (by omega) A hAT).2
  have hf : ∃ f, f < L.length ∧ isLd (basisL p A) f = false := Classical.byContradiction fun hno => by
    have := hR.fills (N := L.length) fun f hf => by
      cases e : isLd (basisL p A) f
      · exact absurd ⟨f, hf, e⟩ hno
      · rfl
    omega
  obtain ⟨f, hf, hfl⟩ := hf
  have ho := (freeRow_orth (p := p) hR hf hfl).of_in (basisL_in hP A hAT).2
  obtain ⟨c, hc⟩ : ∃ c : Nat → Int, c = fun q => (freeRow p (basisL p A) L.length f).getD q 0 := ⟨_, rfl⟩
  have h0 := hI c (fun q hq => by
    have e1 : (sumTo L.length fun i => c i * ent L i q) % p = (sumTo L.length fun i => c i * sumTo M.length fun j => a i j * ent M j q) % p := sumTo_mod p fun i hi => cg_mul rfl (ha i hi q hq)
    rw [e1, sumTo_congr (g := fun i => sumTo M.length fun j => c i * (a i j * ent M j q)) fun i _ => (sumTo_mul _ _ _).symm, sumTo_comm]
    refine (sumTo_mod p (g := fun _ => 0) fun j hj => ?_).trans (by rw [sumTo_zero fun _ _ => rfl]; rfl)
    have h1 := ho j (by omega)
    have e2 : (sumTo L.length fun i => c i * (a i j * ent M j q)) = ent M j q * sumTo L.length fun i => a i j * c i := by
      rw [← sumTo_mul]; exact sumTo_congr fun i _ => by rw [← Int.mul_assoc, Int.mul_comm (ent M j q), Int.mul_comm (c i)]
    rw [e2]
    have e3 : (sumTo L.length fun i => a i j * c i) % p = (sumTo L.length fun q => ent A j q * (freeRow p (basisL p A) L.length f).getD q 0) % p := sumTo_mod p fun i hi => by
      rw [hAe j i hj hi, hc]; exact cg_mul (cg_self _ _).symm rfl
    exact (cg_mul rfl (e3.trans h1)).trans (by rw [Int.mul_zero])) f hf
  rw [hc] at h0
  simp only [freeRow_own (p := p) (B := basisL p A) hf] at h0
  rw [Int.emod_eq_of_lt (by omega) (by omega)] at h0
  exact absurd h0 (by decide)
theorem Ind.same (hP : isP p = true) {L M : List (List Int)} (hL : Ind p n L) (hM : Ind p n M) (h1 : InSp p n L M) (h2 : InSp p n M L) : L.length = M.length :=
  Nat.le_antisymm (hL.le hP h1) (hM.le hP h2)
/-- The reduced basis of independent vectors has as many. -/
theorem Ind.basis (hP : isP p = true) {L : List (List Int)} (hT : Tab p n L) (hL : Ind p n L) : (basisL p L).length = L.length :=
  (basisL_red hP L hT).ind.same hP hL (basisL_in hP L hT).1 (basisL_in hP L hT).2
theorem freeTo_count {B : List (List Int)} (hR : Red n B) : ∀ k, ∃ t, t ≤ B.length ∧ (∀ i, i < B.length → (ld B i < k ↔ i < t)) ∧ (freeTo p B n k).length + t = k := by
  intro k
  induction k with
  | zero => exact ⟨0, Nat.zero_le _, fun i _ => by simp, rfl⟩
  | succ k ih =>
    obtain ⟨t, h1, h2, h3⟩ := ih
    cases e : isLd B k with
    | true =>
      obtain ⟨i, hi, hk⟩ := isLd_iff.1 e
      have hit : i = t := by
        have a1 : ¬ i < t := fun h => by have := (h2 i hi).2 h; omega
        have a2 : ¬ t < i := fun h => by
          have b1 := hR.mono t i h hi
          have b2 := (h2 t (by omega)).1 (by omega)
          omega
        omega
      refine ⟨t + 1, by omega, fun j hj => ⟨fun h => ?_, fun h => ?_⟩, by rw [freeTo_skip e]; omega⟩
      · refine Classical.byContradiction fun hc => ?_
        have := hR.mono i j (by omega) hj
        omega
      · rcases Nat.lt_or_ge j t with h4 | h4
        · have := (h2 j hj).2 h4; omega
        · obtain rfl : j = i := by omega
          omega
    | false =>
      refine ⟨t, h1, fun j hj => ?_, by rw [freeTo_take e, List.length_append]; simp; omega⟩
      have hne : ld B j ≠ k := fun h => by rw [isLd_iff.2 ⟨j, hj, h⟩] at e; cases e
      rw [← h2 j hj]; omega
theorem freeTo_length {B : List (List Int)} (hR : Red n B) : (freeTo p B n n).length + B.length = n := by
  obtain ⟨t, h1, h2, h3⟩ := freeTo_count (p := p) hR n
  have : t = B.length := by
    refine Nat.le_antisymm h1 (Nat.le_of_not_lt fun h => ?_)
    have := (h2 t h).1 (hR.lt t h)
    omega
  omega
theorem freeTo_row {B : List (List Int)} {r : Nat} (hr : r < (freeTo p B n n).length) : ∃ f, f < n ∧ isLd B f = false ∧ (freeTo p B n n).getD r [] = freeRow p B n f := by
  obtain ⟨f, h1, h2, h3⟩ := freeTo_mem.1 (getD_mem [] hr)
  exact ⟨f, h1, h2, h3⟩
theorem freeTo_inj {B : List (List Int)} : ∀ k, ∀ r s, r < s → s < (freeTo p B n k).length → k ≤ n → ∃ f, f < k ∧ isLd B f = false ∧ (freeTo p B n k).getD s [] = freeRow p B n f ∧ ∃ g, g < f ∧ isLd B g = false ∧ (freeTo p B n k).getD r [] = freeRow p B n g := by
  intro k
  induction k with
  | zero => intro r s _ hs; rw [freeTo_zero] at hs; simp at hs
  | succ k ih =>
    intro r s hrs hs hk
    cases e : isLd B k with
    | true =>
      rw [freeTo_skip e] at hs ⊢
      obtain ⟨f, h1, h2⟩ := ih r s hrs hs (by omega)
      exact ⟨f, by omega, h2⟩
    | false =>
      rw [freeTo_take e] at hs ⊢
      rw [List.length_append] at hs
      simp only [List.length_cons, List.length_nil] at hs
      rcases Nat.lt_or_ge s (freeTo p B n k).length with h4 | h4
      · rw [getD_app_left [] _ h4, getD_app_left [] _ (show r < _ by omega)]
        obtain ⟨f, h1, h2⟩ := ih r s hrs h4 (by omega)
        exact ⟨f, by omega, h2⟩
      · obtain ⟨z, hz⟩ : ∃ z, z = (freeTo p B n k).length := ⟨_, rfl⟩
        obtain rfl : s = z := by omega
        have h5 : r < (freeTo p B n k).length := by omega
        obtain ⟨g, h6, h7, h8⟩ := freeTo_mem.1 (getD_mem [] h5)
        refine ⟨k, by omega, e, ?_, g, h6, h7, ?_⟩
        · have := getD_app_right [] (freeTo p B n k) [freeRow p B n k] 0
          rw [Nat.add_zero, ← hz] at this
          rw [this]; rfl
        · rw [getD_app_left [] _ h5, h8]
theorem freeTo_ind {B : List (List Int)} (_hR : Red n B) : Ind p n (freeTo p B n n) := fun c hc i hi => by
  obtain ⟨f, h1, h2, h3⟩ := freeTo_row hi
  have h := hc f h1
  rwa [sumTo_one (f := fun j => c j * ent (freeTo p B n n) j f) i hi (fun j hj hne => by
    have : ent (freeTo p B n n) j f = 0 := by
      unfold ent
      rcases Nat.lt_or_ge j i with hl | hl
      · obtain ⟨f', a1, a2, a3, g, a4, a5, a6⟩ := freeTo_inj (p := p) (B := B) n j i hl hi (Nat.le_refl _)
        have : f' = f := by
          refine Classical.byContradiction fun hn => ?_
          have b1 := freeRow_own (p := p) (B := B) a1
          have b2 := freeRow_no (p := p) (B := B) (f := f) a1 hn a2
          rw [← a3, h3, b2] at b1
          exact absurd b1 (by decide)
        rw [a6, freeRow_no h1 (by omega) h2]
      · obtain ⟨f', a1, a2, a3, g, a4, a5, a6⟩ := freeTo_inj (p := p) (B := B) n i j (by omega) hj (Nat.le_refl _)
        have : g = f := by
          refine Classical.byContradiction fun hn => ?_
          have b1 := freeRow_own (p := p) (B := B) (n := n) (f := g) (by omega)
          have b2 := freeRow_no (p := p) (B := B) (n := n) (f := f) (k := g) (by omega) hn a5
          rw [← a6, h3, b2] at b1
          exact absurd b1 (by decide)
        rw [a3, freeRow_no h1 (by omega) h2]
    rw [this, Int.mul_zero]), show ent (freeTo p B n n) i f = 1 by unfold ent; rw [h3, freeRow_own h1], Int.mul_one] at h
/-- Kernel and reduced basis have together as many vectors as there are columns. -/
theorem kernL_dim (hP : isP p = true) {m : List (List Int)} (hT : Tab p n m) : (kernL p m n).length + (basisL p m).length = n := by
  have hp : 2 ≤ p := by have := isP_ge hP; omega
  have hR := basisL_red hP m hT
  unfold kernL
  rw [(freeTo_ind hR).basis hP (freeTo_tab hp _ _ _)]
  exact freeTo_length hR
theorem ent_trans {m : List (List Int)} (hT : Tab p n m) (h0 : 0 < m.length) {i q : Nat} (hi : i < m.length) (hq : q < n) : ent (transL m) q i = ent m i q := by
  unfold ent
  rw [transL_row hT h0 hq, tab_getD hi]; rfl
/-- Columns are made by no more than rows are. -/
theorem rank_cols (hP : isP p = true) {m : List (List Int)} (hT : Tab p n m) (h0 : 0 < m.length) : (basisL p (transL m)).length ≤ (basisL p m).length := by
  have hp : 2 ≤ p := by have := isP_ge hP; omega
  have hTT := transL_tab (p := p) (by omega) hT
  obtain ⟨R, hR⟩ : ∃ R, R = basisL p m := ⟨_, rfl⟩
  have hS := (basisL_in hP m hT).2
  rw [← hR] at hS ⊢
  have hch : ∀ i, ∃ a : Nat → Int, i < m.length → ∀ q, q < n → ent m i q % p = (sumTo R.length fun j => a j * ent R j q) % p := fun i => by
    by_cases hi : i < m.length
    · obtain ⟨a, ha⟩ := hS i hi; exact ⟨a, fun _ => ha⟩
    · exact ⟨fun _ => 0, fun h => absurd h hi⟩
  obtain ⟨a, ha⟩ := Classical.axiomOfChoice hch
  obtain ⟨A, hA⟩ : ∃ A : List (List Int), A = tab R.length fun j => tab m.length fun i => a i j % p := ⟨_, rfl⟩
  have hAl : A.length = R.length := by rw [hA, tab_len]
  have hAe : ∀ j i, j < R.length → i < m.length → ent A j i = a i j % p := fun j i hj hi => by
    unfold ent; rw [hA, tab_getD hj, tab_getD hi]
  rw [← hAl]
  refine (basisL_red hP _ hTT).ind.le hP ((basisL_in hP _ hTT).1.trans fun q hq => ⟨fun j => ent R j q, fun i hi => ?_⟩)
  rw [transL_len hT h0] at hq
  show ent (transL m) q i % p = _
  rw [ent_trans hT h0 hi hq, ha i hi q hq, hAl]
  exact sumTo_mod p fun j hj => by rw [hAe j i hj hi, Int.mul_comm]; exact cg_mul rfl (cg_self _ _).symm
theorem trans_trans {m : List (List Int)} (hT : Tab p n m) (h0 : 0 < m.length) (hn : 0 < n) (hp : 0 < p) : transL (transL m) = m := by
  have hTT := transL_tab hp hT
  have hl := transL_len hT h0
  refine list_ext_getD [] (by rw [transL_len hTT (by omega)]) fun i hi => ?_
  rw [transL_len hTT (by omega)] at hi
  rw [transL_row hTT (by omega) hi, hl]
  refine list_ext_getD 0 (by rw [tab_len, (hT.row hi).1]) fun q hq => ?_
  rw [tab_len] at hq
  rw [tab_getD hq, ent_trans hT h0 hi hq]; rfl
/-- Rows and columns have the same rank. -/
theorem rank_trans (hP : isP p = true) {m : List (List Int)} (hT : Tab p n m) (h0 : 0 < m.length) (hn : 0 < n) : (basisL p (transL m)).length = (basisL p m).length := by
  have hp : 2 ≤ p := by have := isP_ge hP; omega
  refine Nat.le_antisymm (rank_cols hP hT h0) ?_
  have hTT := transL_tab (p := p) (by omega) hT
  have h := rank_cols hP hTT (by rw [transL_len hT h0]; exact hn)
  rwa [trans_trans hT h0 hn (by omega)] at h
end
end Go.Proofs.YtdbibmilicjllaaGreat
namespace Go.Proofs.YtdbibmilicjllaaGreat
open Go.RowKit
theorem unitM_ent {n i k : Nat} (hi : i < n) (hk : k < n) : ent (unitM n) i k = if i = k then 1 else 0 := by
  have hl : i < (unitM n).length := by rw [unitM_len]; exact hi
  unfold ent
  rw [getD_of_lt [] hl, unitM_get n i hl]
  unfold unitRow
  rw [getD_set, List.length_replicate]
  by_cases h : i = k
  · rw [if_pos ⟨h, hi⟩, if_pos h]
  · rw [if_neg (fun hh => h hh.1), if_neg h, getD_of_lt 0 (by simpa using hk)]; simp
theorem unitM_ld {n i : Nat} (hi : i < n) : ld (unitM n) i = i := by
  have hl : i < (unitM n).length := by rw [unitM_len]; exact hi
  have hr : ((unitM n).getD i []).length = n := by rw [getD_of_lt [] hl, unitM_get n i hl, unitRow_len]
  unfold ld
  refine leadL_eq _ _ (fun j hj => ?_) (.inr ⟨by rw [hr]; exact hi, ?_⟩)
  · have := unitM_ent (n := n) hi (show j < n by omega)
    unfold ent at this
    rw [this, if_neg (by omega)]
  · have := unitM_ent (n := n) hi hi
    unfold ent at this
    rw [this, if_pos rfl]; decide
theorem unitM_red (n : Nat) : Red n (unitM n) := by
  have hl := unitM_len n
  refine ⟨fun i hi => by rw [unitM_ld (by omega)]; omega, fun i hi => by rw [unitM_ld (by omega), unitM_ent (by omega) (by omega), if_pos rfl], fun i r hi hr hri => by rw [unitM_ld (by omega), unitM_ent (by omega) (by omega), if_neg hri], fun i j hij hj => by rw [unitM_ld (by omega), unitM_ld (by omega)]; exact hij⟩
theorem l02Unit_any (n : Nat) (w : World) (hn : n ≤ 65536) :
    Calls Tryz.prog 180 #[.int .i64 n] w fun e w' => ∃ A c, e = .returned (.slice A n c) ∧ MkII w w' A n c (unitM n) := by
  have hmk := make_i (P := Tryz.prog) 24 2 Tryz.underlying24 info_i n (by omega)
  have hM0 : MkII w (w.alloc (.cells #[] 24)) (some ⟨w.heap.size, 0, none⟩) 0 0 [] := MkII.empty (Below.refl _ _)
  go_enter Tryz.func180, Tryz.ntmps180
  go_wp2
  go_loopw [3, 4] (fun out i wr => ∃ (k : Nat) (A : Option Addr) (c : Nat), k ≤ n ∧ i = .int .i64 k ∧ out = .slice A k c ∧ MkII w wr A k c ((unitM n).take k)) (fun _ i _ => n - (intOf i).toNat)
  case atStart => exact ⟨0, _, _, by omega, rfl, rfl, by simpa using hM0⟩
  case round =>
    obtain ⟨k, A, c, hk, rfl, rfl, hM⟩ := hrel
    clear hM0
    by_cases hlt : k < n
    · have hm1 := Mk.made (E := 2) (n := n) (z := .int .i64 0) (Below.refl wr.heap.size wr) (by simp only [maxLen]; omega)
      rw [ints_replicate] at hm1
      obtain ⟨u1, hc1⟩ := hm1.2.cellI hlt
      have hf1 := hm1.2.frozen_ k
      have hm2 := (hm1.set k (.int .i64 1)).1
      rw [ints_set, World.setCell_alloc_at _ _ _ _ _ rfl] at hm2
      have HM := Lib.hid hM
      have HM2 := Lib.hid hm2
      clear hM hm1 hm2
      go_wp2_with (at_builtin; refine wpList_appRow w wr _ rfl _ _ rfl A k c _ _ n n _ HM.out HM2.out (by omega) rfl ?_ ?_; (go_simp); intro A' c' w' hM')
      go_roundw
      case rel => exact ⟨k + 1, A', c', by omega, by go_num, rfl, by rw [unitM_take n k hlt]; exact hM'⟩
      case measure => simp [intOf]; omega
    · go_wp2
      go_ret
      obtain rfl : k = n := by omega
      rw [List.take_of_length_le (by rw [unitM_len]; omega)] at hM
      exact ⟨_, _, rfl, hM⟩
end Go.Proofs.YtdbibmilicjllaaGreat
