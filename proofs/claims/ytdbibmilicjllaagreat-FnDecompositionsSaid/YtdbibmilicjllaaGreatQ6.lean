/-
  LawFnDecompositions: part 6 of the texts that the proof needs. No condition.
-/
import Derived.Test.YtdbibmilicjllaaGreatQ5
namespace Go.Proofs.YtdbibmilicjllaaGreat
open Go.RowKit
/-- The geometric product of vectors. -/
def versL (P : Int) (sq : List Int) (n : Nat) (L : List (List Int)) : List Int := L.foldl (fun o v => mulL P sq o (vecTo n v n)) (bladeL n 0)
theorem versL_snoc (P : Int) (sq : List Int) (n : Nat) (L : List (List Int)) (v : List Int) : versL P sq n (L ++ [v]) = mulL P sq (versL P sq n L) (vecTo n v n) := by unfold versL; rw [List.foldl_append]; rfl
theorem mulL_len' (P : Int) (sq xs ys : List Int) : (mulL P sq xs ys).length = xs.length := by unfold mulL; rw [prodL_len]
theorem versL_len (P : Int) (sq : List Int) (n : Nat) : ∀ (k : Nat) (L : List (List Int)), L.length = k → (versL P sq n L).length = pw n := by
  intro k
  induction k with
  | zero => intro L h; rw [List.eq_nil_of_length_eq_zero h]; exact bladeL_len n 0
  | succ k ih =>
    intro L h
    have hne : L ≠ [] := fun e => by rw [e] at h; simp at h
    rw [← List.dropLast_concat_getLast hne, versL_snoc, mulL_len']
    exact ih _ (by rw [List.length_dropLast, h]; rfl)
theorem versL_nums {P : Int} (hp : 2 ≤ P) (sq : List Int) (n : Nat) (L : List (List Int)) : NumsL P (versL P sq n L) := by
  by_cases h : L = []
  · rw [h]; exact bladeL_nums hp n 0
  · rw [← List.dropLast_concat_getLast h, versL_snoc]
    exact mulL_nums (by omega) _ _ _
set_option maxHeartbeats 3200000 in
set_option maxRecDepth 8000 in
theorem versor_any (P : Int) (A : Option Addr) (n c : Nat) (sq : List Int) (B : Option Addr) (m d : Nat) (L : List (List Int)) (w : World) (HP : isP P = true) (hn : n ≤ 6) (h0 : 0 < n) (hm : m ≤ 65536) (ha : Rd w A n (ints sq)) (hs : NumsL P sq) (hb : RdII w B m L) (hL : Tab P n L) :
    Calls Tryz.prog 158 #[.agg #[.int .i64 P, .slice A n c], .slice B m d] w fun e w' => ∃ A' c', e = .returned (.slice A' (pw n) c') ∧ MkI w w' A' (pw n) c' (versL P sq n L) := by
  obtain ⟨hp3, hp2⟩ := isP_ge HP
  have hp : 2 ≤ P := by omega
  have HML := Lib.hid hb.len
  have HTL := Lib.hid hL
  have hB0 : Below w.heap.size w (w.alloc (.cells #[.int .i64 P, .slice A n c] 26)) := (Below.refl _ _).alloc (Nat.le_refl _) _
  have k0 : Blk (w.alloc (.cells #[.int .i64 P, .slice A n c] 26)) w.heap.size 26 #[.int .i64 P, .slice A n c] := Blk.new _ _ _
  obtain ⟨q0, q1⟩ := k0.two
  clear hL
  go_enter Tryz.func158, Tryz.ntmps158
  go_wp2_with fail
  refine (one_any P A n c _ (by omega)).mono ?_
  rintro e w1 ⟨G, c1, rfl, hM1⟩
  have k1 := k0.below hM1.b k0.lt
  have hM := hM1.after hB0
  clear hM1 hB0 k0 q0 q1
  go_wp2
  go_loopw [5, 7, 12] (fun out _ i wr => ∃ (k : Nat) (G : Option Addr) (cg : Nat), k ≤ m ∧ i = .int .i64 k ∧ out = .slice G (pw n) cg ∧ MkI w wr G (pw n) cg (versL P sq n (L.take k)) ∧ Blk wr w.heap.size 26 #[.int .i64 P, .slice A n c]) (fun _ _ i _ => m - (intOf i).toNat)
  case atStart => exact ⟨0, _, _, by omega, rfl, rfl, by simpa [versL] using hM, k1⟩
  case round =>
    obtain ⟨k, G, cg, hk, rfl, rfl, hM2, k2⟩ := hrel
    clear hM k1
    obtain ⟨q0, q1⟩ := k2.two
    by_cases hlt : k < m
    · obtain ⟨g, o, rfl, hxk, A1, c1', hcx, hr, hcc⟩ := (hb.below hM2.b).at_ hlt
      have HRN := Lib.hid (HTL.out L[k] (List.getElem_mem hxk))
      have hl1 := HRN.out.1
      rw [hl1] at hcx hr
      have HR := Lib.hid hr
      have HT : Hid (versL P sq n (L.take (k + 1)) = mulL P sq (versL P sq n (L.take k)) (vecTo n L[k] n)) := Lib.hid (by rw [List.take_succ_eq_append_getElem hxk, versL_snoc])
      have HN := Lib.hid (versL_nums hp sq n (L.take k))
      have HLN := Lib.hid (versL_len P sq n _ (L.take k) rfl)
      have HM2 := Lib.hid hM2
      have HA := Lib.hid (ha.below hM2.b)
      have HSQ := Lib.hid hs
      obtain ⟨v, hv⟩ : ∃ v, v = L[k] := ⟨_, rfl⟩
      rw [← hv] at HRN HR HT
      obtain ⟨O, hO⟩ : ∃ O, O = versL P sq n (L.take k) := ⟨_, rfl⟩
      rw [← hO] at HT HN HM2 HLN
      have HTT := Lib.hid (timesL_two P sq n O (vecTo n v n) HLN.out HN.out)
      clear hl1 hr hcc hv hO hM2 hxk
      go_wp2
      refine wp_obs 7 [[], [], [], [], [2, 3], [1, 2, 3, 4], [0, 1, 2, 3, 4, 5], [0, 1, 2, 3, 4, 5, 6]] [VIs (.agg #[.int .i64 P, .slice A n c]), VIs (.slice G (pw n) cg), VIs (.agg #[.int .i64 P, .slice A n c]), VIs (.slice A1 n c1'), VSl wr (pw n) (vecTo n v n), VRow 2 [O, vecTo n v n], VSl wr (pw n) (mulL P sq O (vecTo n v n))] (fun w' => Blk w' w.heap.size 26 #[.int .i64 P, .slice A n c] ∧ Below wr.heap.size wr w') (by kernel_rfl) (by kernel_rfl) (fun _ _ h hb => ⟨h.1.below hb h.1.lt, h.2.trans (hb.mono h.2.size)⟩) (⟨k2.drew, (Below.refl _ _).drew⟩) (fun x => ?_)
      refine obs_step (Eq.trans (by simp only [zA, zC]; exact rfl) rfl) rfl (fun w' hS hV K hK => ?_) ?_
      · obtain ⟨q0, q1⟩ := hS.1.two
        go_simp
        exact hK.out _ _ _ rfl rfl rfl (Below.refl _ _)
      simp only [zD, zE, zF]
      refine obs_step (Eq.trans (by simp only [zA, zB, zC]; exact rfl) rfl) rfl (fun w' hS hV K hK => ?_) ?_
      · obtain ⟨q0, q1⟩ := hS.1.two
        go_simp
        exact hK.out _ _ _ rfl rfl rfl (Below.refl _ _)
      simp only [zD, zE, zF]
      refine obs_step (Eq.trans (by simp only [zA, zB, zC]; exact rfl) rfl) rfl (fun w' hS hV K hK => ?_) ?_
      · obtain ⟨q0, q1⟩ := hS.1.two
        go_simp
        exact hK.out _ _ _ rfl rfl rfl (Below.refl _ _)
      simp only [zD, zE, zF]
      refine obs_step (Eq.trans (by simp only [zA, zB, zC]; exact rfl) rfl) rfl (fun w' hS hV K hK => ?_) ?_
      · obtain ⟨q0, q1⟩ := hS.1.two
        go_simp
        exact hK.out _ _ _ rfl rfl rfl (Below.refl _ _)
      simp only [zD, zE, zF]
      refine obs_step (Eq.trans (by simp only [zA, zB, zC]; exact rfl) rfl) rfl (fun w' hS hV K hK => ?_) ?_
      · have e2 : x 2 = (.agg #[.int .i64 P, .slice A n c]) := hV 2 (by decide)
        have e3 : x 3 = (.slice A1 n c1') := hV 3 (by decide)
        obtain ⟨q0, q1⟩ := hS.1.two
        go_simp
        refine (vector_any P A n c _ _ v _ (by omega) (HR.out.below hS.2)).mono ?_
        rintro e v1 ⟨A2, c2, rfl, hM⟩
        exact hK.out _ _ _ rfl rfl ⟨_, _, rfl, hM.after hS.2⟩ hM.b
      simp only [zD, zE, zF]
      refine obs_step (Eq.trans (by simp only [zA, zB, zC]; exact rfl) rfl) rfl (fun w' hS hV K hK => ?_) ?_
      · have e1 : x 1 = (.slice G (pw n) cg) := hV 1 (by decide)
        obtain ⟨A4, c4, e4, h4⟩ := hV 4 (by decide)
        obtain ⟨q0, q1⟩ := hS.1.two
        go_simp
        exact hK.out _ _ _ rfl rfl ⟨_, _, rfl, rdII_two (Blk.new _ _ _) (Rd.below (HM2.out.below hS.2).rd ((Below.refl _ _).alloc (Nat.le_refl _) _)) (Rd.below h4.rd ((Below.refl _ _).alloc (Nat.le_refl _) _)) HM2.out.2.cap h4.2.cap⟩ ((Below.refl _ _).alloc (Nat.le_refl _) _)
      simp only [zD, zE, zF]
      refine obs_step (Eq.trans (by simp only [zA, zB, zC]; exact rfl) rfl) rfl (fun w' hS hV K hK => ?_) ?_
      · have e0 : x 0 = (.agg #[.int .i64 P, .slice A n c]) := hV 0 (by decide)
        obtain ⟨A4, c4, e4, h4⟩ := hV 4 (by decide)
        obtain ⟨A5, c5, e5, h5⟩ := hV 5 (by decide)
        obtain ⟨q0, q1⟩ := hS.1.two
        go_simp
        refine (times_any P A n c sq _ 2 _ [O, vecTo n v n] _ hp hp2 hn (by omega) (HA.out.below hS.2) HSQ.out h5 (all_two ⟨HN.out, HLN.out⟩ ⟨vecTo_nums (by omega) n _ HRN.out.2 n, vecTo_len _ _ _⟩)).mono ?_
        rw [HTT.out]
        rintro e v1 ⟨A2, c2, rfl, hM⟩
        exact hK.out _ _ _ rfl rfl ⟨_, _, rfl, hM.after hS.2⟩ hM.b
      simp only [zD, zE, zF]
      refine fun w' hS hV => ?_
      have e0 : x 0 = (.agg #[.int .i64 P, .slice A n c]) := hV 0 (by decide)
      have e1 : x 1 = (.slice G (pw n) cg) := hV 1 (by decide)
      have e2 : x 2 = (.agg #[.int .i64 P, .slice A n c]) := hV 2 (by decide)
      have e3 : x 3 = (.slice A1 n c1') := hV 3 (by decide)
      obtain ⟨A4, c4, e4, h4⟩ := hV 4 (by decide)
      obtain ⟨A5, c5, e5, h5⟩ := hV 5 (by decide)
      obtain ⟨A6, c6, e6, h6⟩ := hV 6 (by decide)
      simp only [e0, e1, e2, e3, e4, e5, e6]
      clear e0 e1 e2 e3 e4 e5 e6
      refine any_one (j := 7) (by kernel_rfl) (Eq.trans (by simp only [zA, zB, zC]; exact rfl) rfl) (fun K hK => ?_)
      go_simp
      refine hK.out _ _ (wpAny_done (by kernel_rfl) ?_ _)
      have k3 := hS.1
      have HMN := Lib.hid (h6.after HM2.out.b)
      clear hS h6 h4 h5 HTT
      go_wp2
      go_roundw
      case rel => exact ⟨k + 1, A6, c6, by omega, by go_num, rfl, by rw [HT.out]; exact HMN.out, k3⟩
      case measure => simp [intOf]; omega
    · obtain rfl : k = m := by omega
      rw [List.take_of_length_le (by rw [HML.out]; exact Nat.le_refl _)] at hM2
      go_wp2
      go_ret
      exact ⟨_, _, rfl, hM2⟩
set_option maxHeartbeats 800000 in
set_option maxRecDepth 8000 in
theorem norm_any (P : Int) (A : Option Addr) (n c : Nat) (sq : List Int) (X : Option Addr) (cx : Nat) (v : List Int) (w : World) (hp : 2 ≤ P) (hp2 : P ≤ 13) (hn : n ≤ 6) (ha : Rd w A n (ints sq)) (hs : NumsL P sq) (hx : Rd w X n (ints v)) (hv : NumsL P v) :
    Calls Tryz.prog 165 #[.agg #[.int .i64 P, .slice A n c], .slice X n cx] w fun e w' => e = .returned (.int .i64 (pairL P sq v v)) ∧ Below w.heap.size w w' := by
  have hB0 : Below w.heap.size w (w.alloc (.cells #[.int .i64 P, .slice A n c] 26)) := (Below.refl _ _).alloc (Nat.le_refl _) _
  have k0 : Blk (w.alloc (.cells #[.int .i64 P, .slice A n c] 26)) w.heap.size 26 #[.int .i64 P, .slice A n c] := Blk.new _ _ _
  have hpr := pair_any P A n c sq X cx v X cx v (w.alloc (.cells #[.int .i64 P, .slice A n c] 26)) hp hp2 hn (ha.below hB0) hs (hx.below hB0) hv (hx.below hB0) hv
  obtain ⟨q0, q1⟩ := k0.two
  go_enter Tryz.func165, Tryz.ntmps165
  go_wp2_with fail
  refine hpr.mono ?_
  rintro e w2 ⟨rfl, hb⟩
  go_wp2
  go_ret
  exact ⟨rfl, hB0.trans (hb.mono hB0.size)⟩
theorem pairL_small {P : Int} (hp : 2 ≤ P) (sq v u : List Int) : 0 ≤ pairL P sq v u ∧ pairL P sq v u < P := by
  unfold pairL dotL
  exact ⟨Int.emod_nonneg _ (by omega), Int.emod_lt_of_pos _ (by omega)⟩
/-- The reflection in u of v, as the program computes it. -/
def rflL (P : Int) (sq u v : List Int) : List Int := plusL P v u (-2 * pairL P sq u v * invF P (pairL P sq u u))
theorem rflL_len (P : Int) (sq u v : List Int) : (rflL P sq u v).length = v.length := plusL_len _ _ _ _
theorem rflL_nums {P : Int} (hp : 0 < P) (sq u v : List Int) : NumsL P (rflL P sq u v) := plusL_nums hp _ _ _
theorem mul_two_small {P a b : Int} (h2 : P ≤ 13) (ha : 0 ≤ a ∧ a < P) (hb : 0 ≤ b ∧ b < P) : 0 ≤ a * b ∧ a * b ≤ 144 :=
  ⟨Int.mul_nonneg ha.1 hb.1, Int.le_trans (Int.mul_le_mul_of_nonneg_right (show a ≤ 12 by omega) hb.1) (by omega)⟩
set_option maxHeartbeats 3200000 in
set_option maxRecDepth 8000 in
theorem reflected_any (P : Int) (A : Option Addr) (n c : Nat) (sq : List Int) (U : Option Addr) (cu : Nat) (u : List Int) (Y : Option Addr) (cy : Nat) (v : List Int) (w : World) (HP : isP P = true) (hn : n ≤ 6) (ha : Rd w A n (ints sq)) (hs : NumsL P sq) (hx : Rd w U n (ints u)) (hu : NumsL P u) (hy : Rd w Y n (ints v)) (hv : NumsL P v) (hne : ¬ pairL P sq u u = 0) :
    Calls Tryz.prog 338 #[.agg #[.int .i64 P, .slice A n c], .slice U n cu, .slice Y n cy] w fun e w' => ∃ A' c', e = .returned (.slice A' n c') ∧ MkI w w' A' n c' (rflL P sq u v) := by
  obtain ⟨hp3, hp2⟩ := isP_ge HP
  have hp : 2 ≤ P := by omega
  have ha1 := pairL_small hp sq u v
  have hb1 := pairL_small hp sq u u
  have hi1 := invF_small hp (pairL P sq u u)
  have HM1 := mul_two_small hp2 ha1 hi1
  have HSA := Lib.hid hs
  have HUA := Lib.hid hu
  have HVA := Lib.hid hv
  obtain ⟨R, hR⟩ : ∃ R, R = rflL P sq u v := ⟨_, rfl⟩
  have HR := Lib.hid hR
  have HPR := Lib.hid fun (w' : World) (h : Below w.heap.size w w') => pair_any P A n c sq U cu u Y cy v w' hp hp2 hn (ha.below h) hs (hx.below h) hu (hy.below h) hv
  have HNR := Lib.hid fun (w' : World) (h : Below w.heap.size w w') => norm_any P A n c sq U cu u w' hp hp2 hn (ha.below h) hs (hx.below h) hu
  have HIN := Lib.hid fun (w' : World) => inv_any P (pairL P sq u u) w' hp hp2 (by omega) (by omega)
  have HPL := Lib.hid fun (w' : World) (h : Below w.heap.size w w') => plus_any P Y n cy U n cu (-2 * pairL P sq u v * invF P (pairL P sq u u)) v u w' hp hp2 (by omega) (Nat.le_refl _) (hy.below h) hv (hx.below h) hu (by rw [Int.mul_assoc]; omega) (by rw [Int.mul_assoc]; omega)
  rw [show plusL P v u (-2 * pairL P sq u v * invF P (pairL P sq u u)) = R from hR.symm] at HPL
  obtain ⟨a, hA⟩ : ∃ a, a = pairL P sq u v := ⟨_, rfl⟩
  obtain ⟨b, hB⟩ : ∃ b, b = pairL P sq u u := ⟨_, rfl⟩
  rw [← hB] at HNR HIN HPL HM1 hi1 hb1 hne
  rw [← hA] at HPR HPL HM1 ha1
  obtain ⟨i, hi⟩ : ∃ i, i = invF P b := ⟨_, rfl⟩
  rw [← hi] at HIN HPL HM1 hi1
  have W1 := i64_fit (-2 * a) (by omega) (by omega)
  have W2 := i64_fit (-2 * a * i) (by rw [Int.mul_assoc]; omega) (by rw [Int.mul_assoc]; omega)
  have hB0 : Below w.heap.size w (w.alloc (.cells #[.int .i64 P, .slice A n c] 26)) := (Below.refl _ _).alloc (Nat.le_refl _) _
  have k0 : Blk (w.alloc (.cells #[.int .i64 P, .slice A n c] 26)) w.heap.size 26 #[.int .i64 P, .slice A n c] := Blk.new _ _ _
  obtain ⟨q0, q1⟩ := k0.two
  clear hA hB hi hR hs hu hv ha hx hy HP
  go_enter Tryz.func338, Tryz.ntmps338
  go_wp2
  refine wp_obs 18 [[], [0], [], [], [], [], [], [4, 5, 6], [4, 5, 6, 7], [], [9], [], [], [11, 12], [9, 10, 11, 12, 13], [4, 5, 6, 7, 8, 9, 10, 11, 12, 13, 14], [0, 1, 2, 3, 4, 5, 6, 7, 8, 9, 10, 11, 12, 13, 14, 15], [0, 1, 2, 3, 4, 5, 6, 7, 8, 9, 10, 11, 12, 13, 14, 15, 16]] [VIs (.agg #[.int .i64 P, .slice A n c]), VIs (.int .i64 (P)), VIs (.slice Y n cy), VIs (.slice U n cu), VIs (.agg #[.int .i64 P, .slice A n c]), VIs (.slice U n cu), VIs (.slice Y n cy), VIs (.int .i64 (a)), VIs (.int .i64 (-2 * a)), VIs (.agg #[.int .i64 P, .slice A n c]), VIs (.int .i64 (P)), VIs (.agg #[.int .i64 P, .slice A n c]), VIs (.slice U n cu), VIs (.int .i64 (b)), VIs (.int .i64 (i)), VIs (.int .i64 (-2 * a * i)), VSl w n R, VSl w n R] (fun w' => Blk w' w.heap.size 26 #[.int .i64 P, .slice A n c] ∧ Below w.heap.size w w') (by kernel_rfl) (by kernel_rfl) (fun _ _ h hb => ⟨h.1.below hb h.1.lt, h.2.trans (hb.mono h.2.size)⟩) (⟨k0.drew, hB0.drew⟩) (fun x => ?_)
  refine obs_step (Eq.trans (by simp only [zA, zC]; exact rfl) rfl) rfl (fun w' hS hV K hK => ?_) ?_
  · obtain ⟨q0, q1⟩ := hS.1.two
    go_simp
    exact hK.out _ _ _ rfl rfl rfl (Below.refl _ _)
  simp only [zD, zE, zF]
  refine obs_step (Eq.trans (by simp only [zA, zB, zC]; exact rfl) rfl) rfl (fun w' hS hV K hK => ?_) ?_
  · have e0 : x 0 = (.agg #[.int .i64 P, .slice A n c]) := hV 0 (by decide)
    obtain ⟨q0, q1⟩ := hS.1.two
    go_simp
    refine (field_any _ _ _ _ _).mono ?_
    rintro e v1 ⟨rfl, hb⟩
    exact hK.out _ _ _ rfl rfl rfl hb
  simp only [zD, zE, zF]
  refine obs_step (Eq.trans (by simp only [zA, zB, zC]; exact rfl) rfl) rfl (fun w' hS hV K hK => ?_) ?_
  · obtain ⟨q0, q1⟩ := hS.1.two
    go_simp
    exact hK.out _ _ _ rfl rfl rfl (Below.refl _ _)
  simp only [zD, zE, zF]
  refine obs_step (Eq.trans (by simp only [zA, zB, zC]; exact rfl) rfl) rfl (fun w' hS hV K hK => ?_) ?_
  · obtain ⟨q0, q1⟩ := hS.1.two
    go_simp
    exact hK.out _ _ _ rfl rfl rfl (Below.refl _ _)
  simp only [zD, zE, zF]
  refine obs_step (Eq.trans (by simp only [zA, zB, zC]; exact rfl) rfl) rfl (fun w' hS hV K hK => ?_) ?_
  · obtain ⟨q0, q1⟩ := hS.1.two
    go_simp
    exact hK.out _ _ _ rfl rfl rfl (Below.refl _ _)
  simp only [zD, zE, zF]
  refine obs_step (Eq.trans (by simp only [zA, zB, zC]; exact rfl) rfl) rfl (fun w' hS hV K hK => ?_) ?_
  · obtain ⟨q0, q1⟩ := hS.1.two
    go_simp
    exact hK.out _ _ _ rfl rfl rfl (Below.refl _ _)
  simp only [zD, zE, zF]
  refine obs_step (Eq.trans (by simp only [zA, zB, zC]; exact rfl) rfl) rfl (fun w' hS hV K hK => ?_) ?_
  · obtain ⟨q0, q1⟩ := hS.1.two
    go_simp
    exact hK.out _ _ _ rfl rfl rfl (Below.refl _ _)
  simp only [zD, zE, zF]
  refine obs_step (Eq.trans (by simp only [zA, zB, zC]; exact rfl) rfl) rfl (fun w' hS hV K hK => ?_) ?_
  · have e4 : x 4 = (.agg #[.int .i64 P, .slice A n c]) := hV 4 (by decide)
    have e5 : x 5 = (.slice U n cu) := hV 5 (by decide)
    have e6 : x 6 = (.slice Y n cy) := hV 6 (by decide)
    obtain ⟨q0, q1⟩ := hS.1.two
    go_simp
    refine (HPR.out _ hS.2).mono ?_
    rintro e v1 ⟨rfl, hb⟩
    exact hK.out _ _ _ rfl rfl rfl hb
  simp only [zD, zE, zF]
  refine obs_step (Eq.trans (by simp only [zA, zB, zC]; exact rfl) rfl) rfl (fun w' hS hV K hK => ?_) ?_
  · have e7 : x 7 = (.int .i64 (a)) := hV 7 (by decide)
    obtain ⟨q0, q1⟩ := hS.1.two
    go_simp
    exact hK.out _ _ _ rfl rfl rfl (Below.refl _ _)
  simp only [zD, zE, zF]
  refine obs_step (Eq.trans (by simp only [zA, zB, zC]; exact rfl) rfl) rfl (fun w' hS hV K hK => ?_) ?_
  · obtain ⟨q0, q1⟩ := hS.1.two
    go_simp
    exact hK.out _ _ _ rfl rfl rfl (Below.refl _ _)
  simp only [zD, zE, zF]
  refine obs_step (Eq.trans (by simp only [zA, zB, zC]; exact rfl) rfl) rfl (fun w' hS hV K hK => ?_) ?_
  · have e9 : x 9 = (.agg #[.int .i64 P, .slice A n c]) := hV 9 (by decide)
    obtain ⟨q0, q1⟩ := hS.1.two
    go_simp
    refine (field_any _ _ _ _ _).mono ?_
    rintro e v1 ⟨rfl, hb⟩
    exact hK.out _ _ _ rfl rfl rfl hb
  simp only [zD, zE, zF]
  refine obs_step (Eq.trans (by simp only [zA, zB, zC]; exact rfl) rfl) rfl (fun w' hS hV K hK => ?_) ?_
  · obtain ⟨q0, q1⟩ := hS.1.two
    go_simp
    exact hK.out _ _ _ rfl rfl rfl (Below.refl _ _)
  simp only [zD, zE, zF]
  refine obs_step (Eq.trans (by simp only [zA, zB, zC]; exact rfl) rfl) rfl (fun w' hS hV K hK => ?_) ?_
  · obtain ⟨q0, q1⟩ := hS.1.two
    go_simp
    exact hK.out _ _ _ rfl rfl rfl (Below.refl _ _)
  simp only [zD, zE, zF]
  refine obs_step (Eq.trans (by simp only [zA, zB, zC]; exact rfl) rfl) rfl (fun w' hS hV K hK => ?_) ?_
  · have e11 : x 11 = (.agg #[.int .i64 P, .slice A n c]) := hV 11 (by decide)
    have e12 : x 12 = (.slice U n cu) := hV 12 (by decide)
    obtain ⟨q0, q1⟩ := hS.1.two
    go_simp
    refine (HNR.out _ hS.2).mono ?_
    rintro e v1 ⟨rfl, hb⟩
    exact hK.out _ _ _ rfl rfl rfl hb
  simp only [zD, zE, zF]
  refine obs_step (Eq.trans (by simp only [zA, zB, zC]; exact rfl) rfl) rfl (fun w' hS hV K hK => ?_) ?_
  · have e10 : x 10 = (.int .i64 (P)) := hV 10 (by decide)
    have e13 : x 13 = (.int .i64 (b)) := hV 13 (by decide)
    obtain ⟨q0, q1⟩ := hS.1.two
    go_simp
    refine (HIN.out _).mono ?_
    rintro e v1 ⟨rfl, rfl⟩
    exact hK.out _ _ _ rfl rfl rfl (Below.refl _ _)
  simp only [zD, zE, zF]
  refine obs_step (Eq.trans (by simp only [zA, zB, zC]; exact rfl) rfl) rfl (fun w' hS hV K hK => ?_) ?_
  · have e8 : x 8 = (.int .i64 (-2 * a)) := hV 8 (by decide)
    have e14 : x 14 = (.int .i64 (i)) := hV 14 (by decide)
    obtain ⟨q0, q1⟩ := hS.1.two
    go_simp
    exact hK.out _ _ _ rfl rfl rfl (Below.refl _ _)
  simp only [zD, zE, zF]
  refine obs_step (Eq.trans (by simp only [zA, zB, zC]; exact rfl) rfl) rfl (fun w' hS hV K hK => ?_) ?_
  · have e1 : x 1 = (.int .i64 (P)) := hV 1 (by decide)
    have e2 : x 2 = (.slice Y n cy) := hV 2 (by decide)
    have e3 : x 3 = (.slice U n cu) := hV 3 (by decide)
    have e15 : x 15 = (.int .i64 (-2 * a * i)) := hV 15 (by decide)
    obtain ⟨q0, q1⟩ := hS.1.two
    go_simp
    refine (HPL.out _ hS.2).mono ?_
    rintro e v1 ⟨A2, c2, rfl, hM⟩
    exact hK.out _ _ _ rfl rfl ⟨_, _, rfl, hM.after hS.2⟩ hM.b
  simp only [zD, zE, zF]
  refine obs_step (Eq.trans (by simp only [zA, zB, zC]; exact rfl) rfl) rfl (fun w' hS hV K hK => ?_) ?_
  · obtain ⟨A16, c16, e16, h16⟩ := hV 16 (by decide)
    obtain ⟨q0, q1⟩ := hS.1.two
    go_simp
    exact hK.out _ _ _ rfl rfl ⟨_, _, rfl, h16⟩ (Below.refl _ _)
  simp only [zD, zE, zF]
  refine fun w' hS hV => ?_
  have e0 : x 0 = (.agg #[.int .i64 P, .slice A n c]) := hV 0 (by decide)
  have e1 : x 1 = (.int .i64 (P)) := hV 1 (by decide)
  have e2 : x 2 = (.slice Y n cy) := hV 2 (by decide)
  have e3 : x 3 = (.slice U n cu) := hV 3 (by decide)
  have e4 : x 4 = (.agg #[.int .i64 P, .slice A n c]) := hV 4 (by decide)
  have e5 : x 5 = (.slice U n cu) := hV 5 (by decide)
  have e6 : x 6 = (.slice Y n cy) := hV 6 (by decide)
  have e7 : x 7 = (.int .i64 (a)) := hV 7 (by decide)
  have e8 : x 8 = (.int .i64 (-2 * a)) := hV 8 (by decide)
  have e9 : x 9 = (.agg #[.int .i64 P, .slice A n c]) := hV 9 (by decide)
  have e10 : x 10 = (.int .i64 (P)) := hV 10 (by decide)
  have e11 : x 11 = (.agg #[.int .i64 P, .slice A n c]) := hV 11 (by decide)
  have e12 : x 12 = (.slice U n cu) := hV 12 (by decide)
  have e13 : x 13 = (.int .i64 (b)) := hV 13 (by decide)
  have e14 : x 14 = (.int .i64 (i)) := hV 14 (by decide)
  have e15 : x 15 = (.int .i64 (-2 * a * i)) := hV 15 (by decide)
  obtain ⟨A16, c16, e16, h16⟩ := hV 16 (by decide)
  obtain ⟨A17, c17, e17, h17⟩ := hV 17 (by decide)
  simp only [e0, e1, e2, e3, e4, e5, e6, e7, e8, e9, e10, e11, e12, e13, e14, e15, e16, e17]
  clear e0 e1 e2 e3 e4 e5 e6 e7 e8 e9 e10 e11 e12 e13 e14 e15 e16 e17
  refine wpAny_done (by kernel_rfl) ?_ _
  go_wp2
  go_ret
  exact ⟨_, _, rfl, HR.out ▸ h17⟩
theorem rflL_mod {P : Int} (sq u v : List Int) : plusL P v u ((-(2 * pairL P sq u v % P * invF P (pairL P sq u u) % P)) % P) = rflL P sq u v := by
  unfold rflL
  refine plusL_mod P v u ?_
  obtain ⟨a, ha⟩ : ∃ a, a = pairL P sq u v := ⟨_, rfl⟩
  obtain ⟨i, hi⟩ : ∃ i, i = invF P (pairL P sq u u) := ⟨_, rfl⟩
  rw [← ha, ← hi, Int.emod_emod_of_dvd _ (Int.dvd_refl P)]
  have h1 : (2 * a % P * i % P) % P = (2 * a * i) % P := by rw [Int.emod_emod_of_dvd _ (Int.dvd_refl P), Int.mul_emod, Int.emod_emod_of_dvd _ (Int.dvd_refl P), ← Int.mul_emod]
  have h2 := congrArg (fun z => (-1 * z) % P) h1
  have h3 : ∀ z : Int, (-1 * (z % P)) % P = (-z) % P := fun z => by rw [Int.mul_emod, Int.emod_emod_of_dvd _ (Int.dvd_refl P), ← Int.mul_emod, Int.neg_one_mul]
  have h4 : (-1 * (2 * a % P * i % P % P)) % P = (-1 * (2 * a * i % P)) % P := h2
  rw [h3, h3] at h4
  rw [h4, Int.neg_mul, Int.neg_mul]
set_option maxHeartbeats 3200000 in
set_option maxRecDepth 8000 in
theorem l07Reflect_any (P : Int) (A : Option Addr) (n c : Nat) (sq : List Int) (U : Option Addr) (cu : Nat) (u : List Int) (Y : Option Addr) (cy : Nat) (v : List Int) (w : World) (HP : isP P = true) (hn : n ≤ 6) (ha : Rd w A n (ints sq)) (hs : NumsL P sq) (hx : Rd w U n (ints u)) (hu : NumsL P u) (hy : Rd w Y n (ints v)) (hv : NumsL P v) (hne : ¬ pairL P sq u u = 0) :
    Calls Tryz.prog 432 #[.agg #[.int .i64 P, .slice A n c], .slice U n cu, .slice Y n cy] w fun e w' => ∃ A' c', e = .returned (.slice A' n c') ∧ MkI w w' A' n c' (rflL P sq u v) := by
  obtain ⟨hp3, hp2⟩ := isP_ge HP
  have hp : 2 ≤ P := by omega
  have ha1 := pairL_small hp sq u v
  have hb1 := pairL_small hp sq u u
  have hi1 := invF_small hp (pairL P sq u u)
  have HM1 := mul_two_small hp2 ha1 hi1
  have HSA := Lib.hid hs
  have HUA := Lib.hid hu
  have HVA := Lib.hid hv
  obtain ⟨R, hR⟩ : ∃ R, R = rflL P sq u v := ⟨_, rfl⟩
  have HR := Lib.hid hR
  have HPR := Lib.hid fun (w' : World) (h : Below w.heap.size w w') => l03Pair_any P A n c sq U cu u Y cy v w' hp hp2 hn (ha.below h) hs (hx.below h) hu (hy.below h) hv
  have HNR := Lib.hid fun (w' : World) (h : Below w.heap.size w w') => l03Pair_any P A n c sq U cu u U cu u w' hp hp2 hn (ha.below h) hs (hx.below h) hu (hx.below h) hu
  have HIN := Lib.hid fun (w' : World) => l01Inv_any P (pairL P sq u u) w' HP (by omega) (by omega)
  obtain ⟨f, hf⟩ : ∃ f, f = 2 * pairL P sq u v % P * invF P (pairL P sq u u) % P := ⟨_, rfl⟩
  have hf1 : 0 ≤ f ∧ f < P := by rw [hf]; exact ⟨Int.emod_nonneg _ (by omega), Int.emod_lt_of_pos _ (by omega)⟩
  have hk1 : 0 ≤ (-f) % P ∧ (-f) % P < P := ⟨Int.emod_nonneg _ (by omega), Int.emod_lt_of_pos _ (by omega)⟩
  have HPL := Lib.hid fun (w' : World) (h : Below w.heap.size w w') => l02Plus_any P Y n cy U n cu ((-f) % P) v u w' hp hp2 (by omega) (Nat.le_refl _) (hy.below h) hv (hx.below h) hu (by omega) (by omega)
  rw [show plusL P v u ((-f) % P) = R by rw [hf, hR]; exact rflL_mod sq u v] at HPL
  obtain ⟨a, hA⟩ : ∃ a, a = pairL P sq u v := ⟨_, rfl⟩
  obtain ⟨b, hB⟩ : ∃ b, b = pairL P sq u u := ⟨_, rfl⟩
  rw [← hB] at HNR HIN HM1 hi1 hb1 hne hf
  rw [← hA] at HPR HM1 ha1 hf
  obtain ⟨i, hi⟩ : ∃ i, i = invF P b := ⟨_, rfl⟩
  rw [← hi] at HIN HM1 hi1 hf
  have h2a : 0 ≤ 2 * a % P ∧ 2 * a % P < P := ⟨Int.emod_nonneg _ (by omega), Int.emod_lt_of_pos _ (by omega)⟩
  have h2i := mul_two_small hp2 h2a hi1
  have W1 := i64_fit (2 * a) (by omega) (by omega)
  have T1 := Int.tmod_eq_emod_of_nonneg (a := 2 * a) (b := P) (by omega)
  have W2 := i64_fit (2 * a % P * i) (by omega) (by omega)
  have T2 := Int.tmod_eq_emod_of_nonneg (a := 2 * a % P * i) (b := P) (by omega)
  have W3 := i64_fit (P - f) (by omega) (by omega)
  have T3 : (P - f).tmod P = (-f) % P := by rw [Int.tmod_eq_emod_of_nonneg (by omega), Int.sub_eq_add_neg, Int.add_emod, Int.emod_self, Int.zero_add, Int.emod_emod_of_dvd _ (Int.dvd_refl P)]
  have hP0 : ¬ P = 0 := by omega
  have HW := Lib.hid (And.intro W3 T3)
  have HF := Lib.hid hf
  have hB0 : Below w.heap.size w (w.alloc (.cells #[.int .i64 P, .slice A n c] 26)) := (Below.refl _ _).alloc (Nat.le_refl _) _
  have k0 : Blk (w.alloc (.cells #[.int .i64 P, .slice A n c] 26)) w.heap.size 26 #[.int .i64 P, .slice A n c] := Blk.new _ _ _
  obtain ⟨q0, q1⟩ := k0.two
  clear hA hB hi hR hs hu hv ha hx hy HP W3 T3 hf hk1 hf1
  go_enter Tryz.func432, Tryz.ntmps432
  go_wp2
  refine wp_obs 20 [[], [], [], [0, 1, 2], [0, 1, 2, 3], [], [5], [0, 1, 2, 3, 4, 5, 6], [], [8], [], [], [], [10, 11, 12], [8, 9, 10, 11, 12, 13], [0, 1, 2, 3, 4, 5, 6, 7, 8, 9, 10, 11, 12, 13, 14], [], [16], [0, 1, 2, 3, 4, 5, 6, 7, 8, 9, 10, 11, 12, 13, 14, 15, 16, 17], [0, 1, 2, 3, 4, 5, 6, 7, 8, 9, 10, 11, 12, 13, 14, 15, 16, 17, 18]] [VIs (.agg #[.int .i64 P, .slice A n c]), VIs (.slice U n cu), VIs (.slice Y n cy), VIs (.int .i64 (a)), VIs (.int .i64 (2 * a)), VIs (.pointer (some ⟨w.heap.size, 0, none⟩)), VIs (.int .i64 (P)), VIs (.int .i64 (2 * a % P)), VIs (.pointer (some ⟨w.heap.size, 0, none⟩)), VIs (.int .i64 (P)), VIs (.agg #[.int .i64 P, .slice A n c]), VIs (.slice U n cu), VIs (.slice U n cu), VIs (.int .i64 (b)), VIs (.int .i64 (i)), VIs (.int .i64 (2 * a % P * i)), VIs (.pointer (some ⟨w.heap.size, 0, none⟩)), VIs (.int .i64 (P)), VIs (.int .i64 (2 * a % P * i % P)), VIs (.int .i64 (2 * a % P * i % P))] (fun w' => Blk w' w.heap.size 26 #[.int .i64 P, .slice A n c] ∧ Below w.heap.size w w') (by kernel_rfl) (by kernel_rfl) (fun _ _ h hb => ⟨h.1.below hb h.1.lt, h.2.trans (hb.mono h.2.size)⟩) (⟨k0.drew, hB0.drew⟩) (fun x => ?_)
  refine obs_step (Eq.trans (by simp only [zA, zC]; exact rfl) rfl) rfl (fun w' hS hV K hK => ?_) ?_
  · obtain ⟨q0, q1⟩ := hS.1.two
    go_simp
    exact hK.out _ _ _ rfl rfl rfl (Below.refl _ _)
  simp only [zD, zE, zF]
  refine obs_step (Eq.trans (by simp only [zA, zB, zC]; exact rfl) rfl) rfl (fun w' hS hV K hK => ?_) ?_
  · obtain ⟨q0, q1⟩ := hS.1.two
    go_simp
    exact hK.out _ _ _ rfl rfl rfl (Below.refl _ _)
  simp only [zD, zE, zF]
  refine obs_step (Eq.trans (by simp only [zA, zB, zC]; exact rfl) rfl) rfl (fun w' hS hV K hK => ?_) ?_
  · obtain ⟨q0, q1⟩ := hS.1.two
    go_simp
    exact hK.out _ _ _ rfl rfl rfl (Below.refl _ _)
  simp only [zD, zE, zF]
  refine obs_step (Eq.trans (by simp only [zA, zB, zC]; exact rfl) rfl) rfl (fun w' hS hV K hK => ?_) ?_
  · have e0 : x 0 = (.agg #[.int .i64 P, .slice A n c]) := hV 0 (by decide)
    have e1 : x 1 = (.slice U n cu) := hV 1 (by decide)
    have e2 : x 2 = (.slice Y n cy) := hV 2 (by decide)
    obtain ⟨q0, q1⟩ := hS.1.two
    go_simp
    refine (HPR.out _ hS.2).mono ?_
    rintro e v1 ⟨rfl, hb⟩
    exact hK.out _ _ _ rfl rfl rfl hb
  simp only [zD, zE, zF]
  refine obs_step (Eq.trans (by simp only [zA, zB, zC]; exact rfl) rfl) rfl (fun w' hS hV K hK => ?_) ?_
  · have e3 : x 3 = (.int .i64 (a)) := hV 3 (by decide)
    obtain ⟨q0, q1⟩ := hS.1.two
    go_simp
    exact hK.out _ _ _ rfl rfl rfl (Below.refl _ _)
  simp only [zD, zE, zF]
  refine obs_step (Eq.trans (by simp only [zA, zB, zC]; exact rfl) rfl) rfl (fun w' hS hV K hK => ?_) ?_
  · obtain ⟨q0, q1⟩ := hS.1.two
    go_simp
    exact hK.out _ _ _ rfl rfl rfl (Below.refl _ _)
  simp only [zD, zE, zF]
  refine obs_step (Eq.trans (by simp only [zA, zB, zC]; exact rfl) rfl) rfl (fun w' hS hV K hK => ?_) ?_
  · have e5 : x 5 = (.pointer (some ⟨w.heap.size, 0, none⟩)) := hV 5 (by decide)
    obtain ⟨q0, q1⟩ := hS.1.two
    go_simp
    exact hK.out _ _ _ rfl rfl rfl (Below.refl _ _)
  simp only [zD, zE, zF]
  refine obs_step (Eq.trans (by simp only [zA, zB, zC]; exact rfl) rfl) rfl (fun w' hS hV K hK => ?_) ?_
  · have e4 : x 4 = (.int .i64 (2 * a)) := hV 4 (by decide)
    have e6 : x 6 = (.int .i64 (P)) := hV 6 (by decide)
    obtain ⟨q0, q1⟩ := hS.1.two
    go_simp
    exact hK.out _ _ _ rfl rfl rfl (Below.refl _ _)
  simp only [zD, zE, zF]
  refine obs_step (Eq.trans (by simp only [zA, zB, zC]; exact rfl) rfl) rfl (fun w' hS hV K hK => ?_) ?_
  · obtain ⟨q0, q1⟩ := hS.1.two
    go_simp
    exact hK.out _ _ _ rfl rfl rfl (Below.refl _ _)
  simp only [zD, zE, zF]
  refine obs_step (Eq.trans (by simp only [zA, zB, zC]; exact rfl) rfl) rfl (fun w' hS hV K hK => ?_) ?_
  · have e8 : x 8 = (.pointer (some ⟨w.heap.size, 0, none⟩)) := hV 8 (by decide)
    obtain ⟨q0, q1⟩ := hS.1.two
    go_simp
    exact hK.out _ _ _ rfl rfl rfl (Below.refl _ _)
  simp only [zD, zE, zF]
  refine obs_step (Eq.trans (by simp only [zA, zB, zC]; exact rfl) rfl) rfl (fun w' hS hV K hK => ?_) ?_
  · obtain ⟨q0, q1⟩ := hS.1.two
    go_simp
    exact hK.out _ _ _ rfl rfl rfl (Below.refl _ _)
  simp only [zD, zE, zF]
  refine obs_step (Eq.trans (by simp only [zA, zB, zC]; exact rfl) rfl) rfl (fun w' hS hV K hK => ?_) ?_
  · obtain ⟨q0, q1⟩ := hS.1.two
    go_simp
    exact hK.out _ _ _ rfl rfl rfl (Below.refl _ _)
  simp only [zD, zE, zF]
  refine obs_step (Eq.trans (by simp only [zA, zB, zC]; exact rfl) rfl) rfl (fun w' hS hV K hK => ?_) ?_
  · obtain ⟨q0, q1⟩ := hS.1.two
    go_simp
    exact hK.out _ _ _ rfl rfl rfl (Below.refl _ _)
  simp only [zD, zE, zF]
  refine obs_step (Eq.trans (by simp only [zA, zB, zC]; exact rfl) rfl) rfl (fun w' hS hV K hK => ?_) ?_
  · have e10 : x 10 = (.agg #[.int .i64 P, .slice A n c]) := hV 10 (by decide)
    have e11 : x 11 = (.slice U n cu) := hV 11 (by decide)
    have e12 : x 12 = (.slice U n cu) := hV 12 (by decide)
    obtain ⟨q0, q1⟩ := hS.1.two
    go_simp
    refine (HNR.out _ hS.2).mono ?_
    rintro e v1 ⟨rfl, hb⟩
    exact hK.out _ _ _ rfl rfl rfl hb
  simp only [zD, zE, zF]
  refine obs_step (Eq.trans (by simp only [zA, zB, zC]; exact rfl) rfl) rfl (fun w' hS hV K hK => ?_) ?_
  · have e9 : x 9 = (.int .i64 (P)) := hV 9 (by decide)
    have e13 : x 13 = (.int .i64 (b)) := hV 13 (by decide)
    obtain ⟨q0, q1⟩ := hS.1.two
    go_simp
    refine (HIN.out _).mono ?_
    rintro e v1 ⟨rfl, rfl⟩
    exact hK.out _ _ _ rfl rfl rfl (Below.refl _ _)
  simp only [zD, zE, zF]
  refine obs_step (Eq.trans (by simp only [zA, zB, zC]; exact rfl) rfl) rfl (fun w' hS hV K hK => ?_) ?_
  · have e7 : x 7 = (.int .i64 (2 * a % P)) := hV 7 (by decide)
    have e14 : x 14 = (.int .i64 (i)) := hV 14 (by decide)
    obtain ⟨q0, q1⟩ := hS.1.two
    go_simp
    exact hK.out _ _ _ rfl rfl rfl (Below.refl _ _)
  simp only [zD, zE, zF]
  refine obs_step (Eq.trans (by simp only [zA, zB, zC]; exact rfl) rfl) rfl (fun w' hS hV K hK => ?_) ?_
  · obtain ⟨q0, q1⟩ := hS.1.two
    go_simp
    exact hK.out _ _ _ rfl rfl rfl (Below.refl _ _)
  simp only [zD, zE, zF]
  refine obs_step (Eq.trans (by simp only [zA, zB, zC]; exact rfl) rfl) rfl (fun w' hS hV K hK => ?_) ?_
  · have e16 : x 16 = (.pointer (some ⟨w.heap.size, 0, none⟩)) := hV 16 (by decide)
    obtain ⟨q0, q1⟩ := hS.1.two
    go_simp
    exact hK.out _ _ _ rfl rfl rfl (Below.refl _ _)
  simp only [zD, zE, zF]
  refine obs_step (Eq.trans (by simp only [zA, zB, zC]; exact rfl) rfl) rfl (fun w' hS hV K hK => ?_) ?_
  · have e15 : x 15 = (.int .i64 (2 * a % P * i)) := hV 15 (by decide)
    have e17 : x 17 = (.int .i64 (P)) := hV 17 (by decide)
    obtain ⟨q0, q1⟩ := hS.1.two
    go_simp
    exact hK.out _ _ _ rfl rfl rfl (Below.refl _ _)
  simp only [zD, zE, zF]
  refine obs_step (Eq.trans (by simp only [zA, zB, zC]; exact rfl) rfl) rfl (fun w' hS hV K hK => ?_) ?_
  · have e18 : x 18 = (.int .i64 (2 * a % P * i % P)) := hV 18 (by decide)
    obtain ⟨q0, q1⟩ := hS.1.two
    go_simp
    exact hK.out _ _ _ rfl rfl rfl (Below.refl _ _)
  simp only [zD, zE, zF]
  refine fun w' hS hV => ?_
  have e0 : x 0 = (.agg #[.int .i64 P, .slice A n c]) := hV 0 (by decide)
  have e1 : x 1 = (.slice U n cu) := hV 1 (by decide)
  have e2 : x 2 = (.slice Y n cy) := hV 2 (by decide)
  have e3 : x 3 = (.int .i64 (a)) := hV 3 (by decide)
  have e4 : x 4 = (.int .i64 (2 * a)) := hV 4 (by decide)
  have e5 : x 5 = (.pointer (some ⟨w.heap.size, 0, none⟩)) := hV 5 (by decide)
  have e6 : x 6 = (.int .i64 (P)) := hV 6 (by decide)
  have e7 : x 7 = (.int .i64 (2 * a % P)) := hV 7 (by decide)
  have e8 : x 8 = (.pointer (some ⟨w.heap.size, 0, none⟩)) := hV 8 (by decide)
  have e9 : x 9 = (.int .i64 (P)) := hV 9 (by decide)
  have e10 : x 10 = (.agg #[.int .i64 P, .slice A n c]) := hV 10 (by decide)
  have e11 : x 11 = (.slice U n cu) := hV 11 (by decide)
  have e12 : x 12 = (.slice U n cu) := hV 12 (by decide)
  have e13 : x 13 = (.int .i64 (b)) := hV 13 (by decide)
  have e14 : x 14 = (.int .i64 (i)) := hV 14 (by decide)
  have e15 : x 15 = (.int .i64 (2 * a % P * i)) := hV 15 (by decide)
  have e16 : x 16 = (.pointer (some ⟨w.heap.size, 0, none⟩)) := hV 16 (by decide)
  have e17 : x 17 = (.int .i64 (P)) := hV 17 (by decide)
  have e18 : x 18 = (.int .i64 (2 * a % P * i % P)) := hV 18 (by decide)
  have e19 : x 19 = (.int .i64 (2 * a % P * i % P)) := hV 19 (by decide)
  simp only [e0, e1, e2, e3, e4, e5, e6, e7, e8, e9, e10, e11, e12, e13, e14, e15, e16, e17, e18, e19]
  clear e0 e1 e2 e3 e4 e5 e6 e7 e8 e9 e10 e11 e12 e13 e14 e15 e16 e17 e18 e19
  refine wpAny_done (by kernel_rfl) ?_ _
  have k1 := hS.1
  have HB1 := Lib.hid hS.2
  rw [← HF.out]
  obtain ⟨w1, rfl⟩ : ∃ W, W = w' := ⟨_, rfl⟩
  obtain ⟨W3, T3⟩ := HW.out
  clear hS q0 q1 W1 T1 W2 T2 k0 hB0
  obtain ⟨q0, q1⟩ := k1.two
  go_wp2
  refine wp_obs 13 [[], [0], [], [], [], [4], [], [4, 5, 6], [], [8], [4, 5, 6, 7, 8, 9], [0, 1, 2, 3, 4, 5, 6, 7, 8, 9, 10], [0, 1, 2, 3, 4, 5, 6, 7, 8, 9, 10, 11]] [VIs (.pointer (some ⟨w.heap.size, 0, none⟩)), VIs (.int .i64 (P)), VIs (.slice Y n cy), VIs (.slice U n cu), VIs (.pointer (some ⟨w.heap.size, 0, none⟩)), VIs (.int .i64 (P)), VIs (.int .i64 (f)), VIs (.int .i64 (P - f)), VIs (.pointer (some ⟨w.heap.size, 0, none⟩)), VIs (.int .i64 (P)), VIs (.int .i64 ((-f) % P)), VSl w n R, VSl w n R] (fun w' => Blk w' w.heap.size 26 #[.int .i64 P, .slice A n c] ∧ Below w1.heap.size w1 w') (by kernel_rfl) (by kernel_rfl) (fun _ _ h hb => ⟨h.1.below hb h.1.lt, h.2.trans (hb.mono h.2.size)⟩) (⟨k1.drew, (Below.refl _ _).drew⟩) (fun x => ?_)
  refine obs_step (Eq.trans (by simp only [zA, zC]; exact rfl) rfl) rfl (fun w' hS hV K hK => ?_) ?_
  · obtain ⟨q0, q1⟩ := hS.1.two
    go_simp
    exact hK.out _ _ _ rfl rfl rfl (Below.refl _ _)
  simp only [zD, zE, zF]
  refine obs_step (Eq.trans (by simp only [zA, zB, zC]; exact rfl) rfl) rfl (fun w' hS hV K hK => ?_) ?_
  · have e0 : x 0 = (.pointer (some ⟨w.heap.size, 0, none⟩)) := hV 0 (by decide)
    obtain ⟨q0, q1⟩ := hS.1.two
    go_simp
    exact hK.out _ _ _ rfl rfl rfl (Below.refl _ _)
  simp only [zD, zE, zF]
  refine obs_step (Eq.trans (by simp only [zA, zB, zC]; exact rfl) rfl) rfl (fun w' hS hV K hK => ?_) ?_
  · obtain ⟨q0, q1⟩ := hS.1.two
    go_simp
    exact hK.out _ _ _ rfl rfl rfl (Below.refl _ _)
  simp only [zD, zE, zF]
  refine obs_step (Eq.trans (by simp only [zA, zB, zC]; exact rfl) rfl) rfl (fun w' hS hV K hK => ?_) ?_
  · obtain ⟨q0, q1⟩ := hS.1.two
    go_simp
    exact hK.out _ _ _ rfl rfl rfl (Below.refl _ _)
  simp only [zD, zE, zF]
  refine obs_step (Eq.trans (by simp only [zA, zB, zC]; exact rfl) rfl) rfl (fun w' hS hV K hK => ?_) ?_
  · obtain ⟨q0, q1⟩ := hS.1.two
    go_simp
    exact hK.out _ _ _ rfl rfl rfl (Below.refl _ _)
  simp only [zD, zE, zF]
  refine obs_step (Eq.trans (by simp only [zA, zB, zC]; exact rfl) rfl) rfl (fun w' hS hV K hK => ?_) ?_
  · have e4 : x 4 = (.pointer (some ⟨w.heap.size, 0, none⟩)) := hV 4 (by decide)
    obtain ⟨q0, q1⟩ := hS.1.two
    go_simp
    exact hK.out _ _ _ rfl rfl rfl (Below.refl _ _)
  simp only [zD, zE, zF]
  refine obs_step (Eq.trans (by simp only [zA, zB, zC]; exact rfl) rfl) rfl (fun w' hS hV K hK => ?_) ?_
  · obtain ⟨q0, q1⟩ := hS.1.two
    go_simp
    exact hK.out _ _ _ rfl rfl rfl (Below.refl _ _)
  simp only [zD, zE, zF]
  refine obs_step (Eq.trans (by simp only [zA, zB, zC]; exact rfl) rfl) rfl (fun w' hS hV K hK => ?_) ?_
  · have e5 : x 5 = (.int .i64 (P)) := hV 5 (by decide)
    have e6 : x 6 = (.int .i64 (f)) := hV 6 (by decide)
    obtain ⟨q0, q1⟩ := hS.1.two
    go_simp
    exact hK.out _ _ _ rfl rfl rfl (Below.refl _ _)
  simp only [zD, zE, zF]
  refine obs_step (Eq.trans (by simp only [zA, zB, zC]; exact rfl) rfl) rfl (fun w' hS hV K hK => ?_) ?_
  · obtain ⟨q0, q1⟩ := hS.1.two
    go_simp
    exact hK.out _ _ _ rfl rfl rfl (Below.refl _ _)
  simp only [zD, zE, zF]
  refine obs_step (Eq.trans (by simp only [zA, zB, zC]; exact rfl) rfl) rfl (fun w' hS hV K hK => ?_) ?_
  · have e8 : x 8 = (.pointer (some ⟨w.heap.size, 0, none⟩)) := hV 8 (by decide)
    obtain ⟨q0, q1⟩ := hS.1.two
    go_simp
    exact hK.out _ _ _ rfl rfl rfl (Below.refl _ _)
  simp only [zD, zE, zF]
  refine obs_step (Eq.trans (by simp only [zA, zB, zC]; exact rfl) rfl) rfl (fun w' hS hV K hK => ?_) ?_
  · have e7 : x 7 = (.int .i64 (P - f)) := hV 7 (by decide)
    have e9 : x 9 = (.int .i64 (P)) := hV 9 (by decide)
    obtain ⟨q0, q1⟩ := hS.1.two
    go_simp
    exact hK.out _ _ _ rfl rfl rfl (Below.refl _ _)
  simp only [zD, zE, zF]
  refine obs_step (Eq.trans (by simp only [zA, zB, zC]; exact rfl) rfl) rfl (fun w' hS hV K hK => ?_) ?_
  · have e1 : x 1 = (.int .i64 (P)) := hV 1 (by decide)
    have e2 : x 2 = (.slice Y n cy) := hV 2 (by decide)
    have e3 : x 3 = (.slice U n cu) := hV 3 (by decide)
    have e10 : x 10 = (.int .i64 ((-f) % P)) := hV 10 (by decide)
    obtain ⟨q0, q1⟩ := hS.1.two
    go_simp
    refine (HPL.out _ (HB1.out.trans (hS.2.mono HB1.out.size))).mono ?_
    rintro e v1 ⟨A2, c2, rfl, hM⟩
    exact hK.out _ _ _ rfl rfl ⟨_, _, rfl, hM.after (HB1.out.trans (hS.2.mono HB1.out.size))⟩ hM.b
  simp only [zD, zE, zF]
  refine obs_step (Eq.trans (by simp only [zA, zB, zC]; exact rfl) rfl) rfl (fun w' hS hV K hK => ?_) ?_
  · obtain ⟨A11, c11, e11, h11⟩ := hV 11 (by decide)
    obtain ⟨q0, q1⟩ := hS.1.two
    go_simp
    exact hK.out _ _ _ rfl rfl ⟨_, _, rfl, h11⟩ (Below.refl _ _)
  simp only [zD, zE, zF]
  refine fun w' hS hV => ?_
  have e0 : x 0 = (.pointer (some ⟨w.heap.size, 0, none⟩)) := hV 0 (by decide)
  have e1 : x 1 = (.int .i64 (P)) := hV 1 (by decide)
  have e2 : x 2 = (.slice Y n cy) := hV 2 (by decide)
  have e3 : x 3 = (.slice U n cu) := hV 3 (by decide)
  have e4 : x 4 = (.pointer (some ⟨w.heap.size, 0, none⟩)) := hV 4 (by decide)
  have e5 : x 5 = (.int .i64 (P)) := hV 5 (by decide)
  have e6 : x 6 = (.int .i64 (f)) := hV 6 (by decide)
  have e7 : x 7 = (.int .i64 (P - f)) := hV 7 (by decide)
  have e8 : x 8 = (.pointer (some ⟨w.heap.size, 0, none⟩)) := hV 8 (by decide)
  have e9 : x 9 = (.int .i64 (P)) := hV 9 (by decide)
  have e10 : x 10 = (.int .i64 ((-f) % P)) := hV 10 (by decide)
  obtain ⟨A11, c11, e11, h11⟩ := hV 11 (by decide)
  obtain ⟨A12, c12, e12, h12⟩ := hV 12 (by decide)
  simp only [e0, e1, e2, e3, e4, e5, e6, e7, e8, e9, e10, e11, e12]
  clear e0 e1 e2 e3 e4 e5 e6 e7 e8 e9 e10 e11 e12
  refine wpAny_done (by kernel_rfl) ?_ _
  go_wp2
  go_ret
  exact ⟨_, _, rfl, HR.out ▸ h12⟩
end Go.Proofs.YtdbibmilicjllaaGreat
namespace Go.Proofs.YtdbibmilicjllaaGreat
open Go.RowKit
theorem Blk.newAt3 {w : World} {t : TypeId} {cs : Array Value} {g : Nat} (hg : g = w.heap.size) : Blk (w.alloc (.cells cs t)) g t cs := hg ▸ Blk.new w t cs
end Go.Proofs.YtdbibmilicjllaaGreat
namespace Go.Proofs.YtdbibmilicjllaaGreat
open Go.RowKit
/-- The code of a regular space and of vectors. -/
def codeVb (P : Int) (sq : List Int) (vs : List (List Int)) : Int := if codeV P sq vs = 0 then (if regB sq then 0 else 5) else codeV P sq vs
theorem codeVs_no (P : Int) (sq : List Int) (vs : List (List Int)) : codeVs P sq [] vs = codeVb P sq vs := by
  unfold codeVs codeVb
  by_cases h : isSp P sq = true
  · have : codeM P sq [] = 0 := by unfold codeM; simp [h]
    rw [if_pos this]
  · have h1 : codeM P sq [] = 1 := by unfold codeM; rw [if_neg h]
    have h2 : codeV P sq vs = 1 := by unfold codeV; rw [if_neg h]
    rw [h1, h2]; rfl
theorem codeV_mk {P : Int} {sq : List Int} {vs : List (List Int)} (h1 : isSp P sq = true) (h : ∀ v ∈ vs, isVe P sq v = true) : codeV P sq vs = 0 := by
  unfold codeV
  rw [if_pos h1, if_neg]
  intro hh
  obtain ⟨v, hv, e⟩ := List.any_eq_true.1 hh
  rw [h v hv] at e
  cases e
theorem isVe_mk {P : Int} {sq ys : List Int} (h1 : ys.length = sq.length) (h2 : NumsL P ys) : isVe P sq ys = true := by
  unfold isVe nums
  rw [h1, Bool.and_eq_true]
  refine ⟨by simp, List.all_eq_true.2 fun x hx => ?_⟩
  have := h2 x hx
  simp [inR]
  omega
theorem checkVersV_any (P : Int) (A C : Option Addr) (n c l f : Nat) (sq : List Int) (vs : List (List Int)) (w : World) (hn : n ≤ 1048576) (hl : l ≤ 1048576) (ha : Rd w A n (ints sq)) (hc : RdII w C l vs) (hvs : ∀ ys ∈ vs, ys.length ≤ 1048576) :
    Calls Tryz.prog 159 #[.agg #[.int .i64 P, .slice A n c], .slice none 0 0, .slice C l f] w fun e w' => e = .returned (.int .i64 (codeVb P sq vs)) ∧ Below w.heap.size w w' := by
  have h := checkVersors_any P A none C n c 0 0 l f sq [] vs w hn (by omega) hl ha ⟨[], Rd.nil _ _, rfl, fun k h => absurd h (by simp)⟩ (by simp) hc hvs
  rwa [codeVs_no] at h
end Go.Proofs.YtdbibmilicjllaaGreat
namespace Go.Proofs.YtdbibmilicjllaaGreat
open Go.RowKit
theorem RdII.nil (w : World) (A : Option Addr) : RdII w A 0 [] := ⟨[], Rd.nil w A, rfl, fun k h => absurd h (by simp)⟩
theorem codeVs_nil (P : Int) (sq : List Int) (ms : List (List Int)) : codeVs P sq ms [] = codeR P sq ms := by
  unfold codeVs codeR
  by_cases h : codeM P sq ms = 0
  · rw [if_pos h, if_pos h]
    have : codeV P sq [] = 0 := by unfold codeV; rw [(codeM_sp h).1]; rfl
    rw [if_pos this]
  · rw [if_neg h, if_neg h]
/-- What a code 0 says. -/
theorem codeR_zero {P : Int} {sq : List Int} {ms : List (List Int)} (h : codeR P sq ms = 0) : codeM P sq ms = 0 ∧ regB sq = true := by
  unfold codeR at h
  by_cases h1 : codeM P sq ms = 0
  · rw [if_pos h1] at h
    cases h2 : regB sq
    · rw [h2] at h; simp at h
    · exact ⟨h1, rfl⟩
  · rw [if_neg h1] at h; exact absurd h h1
theorem isMu_spec {P : Int} {sq ys : List Int} (h : isMu P sq ys = true) : ys.length = pw sq.length ∧ NumsL P ys := by
  unfold isMu at h
  simp only [Bool.and_eq_true, beq_iff_eq] at h
  exact ⟨by have := h.1; omega, nums_numsL h.2⟩
theorem codeM_spec {P : Int} {sq : List Int} {ms : List (List Int)} (h : codeM P sq ms = 0) : isP P = true ∧ 2 ≤ P ∧ P ≤ 13 ∧ 1 ≤ sq.length ∧ sq.length ≤ 6 ∧ NumsL P sq ∧ ∀ ys ∈ ms, ys.length = pw sq.length ∧ NumsL P ys := by
  obtain ⟨h1, h2⟩ := codeM_sp h
  obtain ⟨hp, hd1, hd2, hnum⟩ := isSp_dim h1
  have := isP_ge hp
  exact ⟨hp, by omega, by omega, hd1, hd2, nums_numsL hnum, fun ys hy => isMu_spec (h2 ys hy)⟩
/-- The code of a regular space and a versor. -/
def codeVr (P : Int) (sq xs : List Int) : Int := if codeR P sq [xs] = 0 then (if versB P sq sq.length xs then 0 else 5) else codeR P sq [xs]
theorem ret_tupS {A : Option Addr} {k c : Nat} {x y : Int} (h2 : x = y) : Ending.returned (.tuple #[.slice A k c, .int .i64 x]) = .returned (.tuple #[.slice A k c, .int .i64 y]) := by rw [h2]
theorem codeVr_eq {P : Int} {sq xs : List Int} (h : codeR P sq [xs] = 0) : codeVr P sq xs = if versB P sq sq.length xs then 0 else 5 := by unfold codeVr; rw [if_pos h]
theorem codeVr_ne {P : Int} {sq xs : List Int} (h : ¬ codeR P sq [xs] = 0) : codeVr P sq xs = codeR P sq [xs] := by unfold codeVr; rw [if_neg h]
end Go.Proofs.YtdbibmilicjllaaGreat
namespace Go.Proofs.YtdbibmilicjllaaGreat
open Go.RowKit
theorem root_some {p a r : Int} (w : World) (hp : 2 ≤ p) (hp2 : p ≤ 13) (h : rootF p a p.toNat 0 = some r) :
    Calls Tryz.prog 226 #[.int .i64 p, .int .i64 a] w fun e w' => e = .returned (.tuple #[.int .i64 r, .bool true]) ∧ w = w' := by
  have := root_any p a w hp hp2
  rw [h] at this
  exact this
theorem root_none {p a : Int} (w : World) (hp : 2 ≤ p) (hp2 : p ≤ 13) (h : rootF p a p.toNat 0 = none) :
    Calls Tryz.prog 226 #[.int .i64 p, .int .i64 a] w fun e w' => e = .returned (.tuple #[.int .i64 0, .bool false]) ∧ w = w' := by
  have := root_any p a w hp hp2
  rw [h] at this
  exact this
end Go.Proofs.YtdbibmilicjllaaGreat
namespace Go.Proofs.YtdbibmilicjllaaGreat
section
variable {P : Int} {sq xs ys : List Int}
end
theorem codeM_mk {P : Int} {sq : List Int} {ms : List (List Int)} (h1 : isSp P sq = true) (h : ∀ ys ∈ ms, ys.length = pw sq.length ∧ NumsL P ys) : codeM P sq ms = 0 := by
  unfold codeM
  rw [if_pos h1, if_neg]
  intro hh
  obtain ⟨ys, hy, e⟩ := List.any_eq_true.1 hh
  obtain ⟨h2, h3⟩ := h ys hy
  have h4 : isMu P sq ys = true := by
    unfold isMu nums
    rw [h2, Bool.and_eq_true]
    refine ⟨by simp, List.all_eq_true.2 fun x hx => ?_⟩
    have := h3 x hx
    simp [inR]
    omega
  rw [h4] at e
  simp at e
end Go.Proofs.YtdbibmilicjllaaGreat
namespace Go.Proofs.YtdbibmilicjllaaGreat
section
variable {p : Int} {sq : List Int}
theorem cg_wit {p a b : Int} : a % p = b % p ↔ ∃ k, a = b + p * k := by
  constructor
  · intro h
    have h1 := Int.emod_add_mul_ediv a p
    have h2 := Int.emod_add_mul_ediv b p
    exact ⟨a / p - b / p, by grind⟩
  · rintro ⟨k, rfl⟩
    rw [Int.add_mul_emod_self_left]
theorem versL_prod (hp : 0 < p) (h2 : 2 ≤ p) (vs : List (List Int)) (hvs : ∀ v ∈ vs, NumsL p v) : versL p sq sq.length vs = (Cl.prod hp vs : Cl p sq).l := by
  unfold versL Cl.prod
  have key : ∀ (y : Cl p sq), vs.foldl (fun o v => mulL p sq o (vecTo sq.length v sq.length)) y.l = (vs.foldl (fun x v => x * Cl.vec hp v) y).l := by
    induction vs with
    | nil => intro y; rfl
    | cons v vs ih =>
      intro y
      rw [List.foldl_cons, List.foldl_cons, ← ih (fun u hu => hvs u (List.mem_cons_of_mem _ hu)), Cl.mul_l, Cl.vec_l hp (hvs v (List.mem_cons_self ..))]
  rw [← key, Cl.one_l h2]
theorem bil_same (hP : isP p = true) {v : List Int} (hl : v.length = sq.length) : pairL p sq v v = 0 ↔ bil sq v v % p = 0 := by
  have h1 := pairL_bil (p := p) (u := v) hl
  have h3 := (isP_ge hP).1
  have h2 := pairL_small (P := p) (by omega) sq v v
  rw [Int.emod_eq_of_lt h2.1 h2.2] at h1
  rw [h1]
/-- The sandwich of a product of vectors. -/
theorem sand_prod (hP : isP p = true) (h6 : sq.length ≤ 6) (vs : List (List Int)) (hvs : ∀ v ∈ vs, v.length = sq.length ∧ NumsL p v ∧ bil sq v v % p ≠ 0) {w : List Int} (hw : w.length = sq.length) (hwn : NumsL p w) :
    sandL p sq sq.length (versL p sq sq.length vs) w = refls p sq vs w := by
  have h3 := (isP_ge hP).1
  have hp : 0 < p := by omega
  have hne : ∀ v ∈ vs, bil sq v v % p ≠ 0 := fun v hv => (hvs v hv).2.2
  obtain ⟨-, hn⟩ := Cl.prod_vers hP hp h6 vs hne
  have hact := Cl.prod_acts hp hP h6 vs hne hw
  have hnn := nrmP_ne hP vs hne
  rw [versL_prod hp (by omega) vs fun v hv => (hvs v hv).2.1]
  obtain ⟨x, hx⟩ : ∃ x : Cl p sq, x = Cl.prod hp vs := ⟨_, rfl⟩
  rw [← hx] at hn hact ⊢
  unfold sandL vinvL
  rw [hn, ← Cl.rev_l, ← Cl.sm_l, ← Cl.invo_l, ← Cl.vec_l hp hwn, ← Cl.mul_l, ← Cl.mul_l, Cl.mul_sm, hact, Cl.sm_sm]
  have h1 : (invF p (nrmP sq vs % p) * nrmP sq vs) % p = (1 : Int) % p := by
    rw [Int.mul_comm, inv_mod hP hnn, Int.emod_eq_of_lt (by omega) (by omega)]
  rw [Cl.sm_cg h1, Cl.one_sm, Cl.vec_at hp (refls_nums hp vs hwn) ((refls_len vs w).trans hw)]
theorem getD_plus {x y : List Int} {k : Int} {i : Nat} (hi : i < x.length) : (plusL p x y k).getD i 0 = (x.getD i 0 + k * y.getD i 0) % p := by
  unfold plusL
  rw [tab_getD hi]
theorem refl_half (hP : isP p = true) {a q : Int} (ha : a % p ≠ 0) (hq : 2 * q % p = (-a) % p) : (-(2 * q * invF p (a % p))) % p = 1 % p := by
  have h3 := (isP_ge hP).1
  have h1 : a * invF p (a % p) % p = 1 % p := by rw [inv_mod hP ha, Int.emod_eq_of_lt (by omega) (by omega)]
  obtain ⟨k, hk⟩ := cg_wit.1 h1
  obtain ⟨l, hl⟩ := cg_wit.1 hq
  exact cg_wit.2 ⟨k - l * invF p (a % p), by grind⟩
/-- The versor between two vectors of the same norm leads the one to the other. -/
theorem vb_refls (hP : isP p = true) {u v : List Int} (hu : u.length = sq.length) (hun : NumsL p u) (hv : v.length = sq.length) (hvn : NumsL p v) (hq : bil sq u u % p = bil sq v v % p) (h0 : bil sq u u % p ≠ 0) :
    (bil sq (plusL p v u (-1)) (plusL p v u (-1)) % p ≠ 0 → refls p sq [plusL p v u (-1)] u = v) ∧
    (bil sq (plusL p v u (-1)) (plusL p v u (-1)) % p = 0 → bil sq (plusL p v u 1) (plusL p v u 1) % p ≠ 0 ∧ refls p sq [v, plusL p v u 1] u = v) := by
  have h3 := (isP_ge hP).1
  have hp : 0 < p := by omega
  have hdl : ∀ k, (plusL p v u k).length = sq.length := fun k => (plusL_len _ _ _ _).trans hv
  -- products with the sums
  have b1 : ∀ k w, bil sq (plusL p v u k) w % p = (bil sq v w + k * bil sq u w) % p := fun k w => bil_plus hv k
  have b2 : ∀ k, bil sq (plusL p v u k) (plusL p v u k) % p = (bil sq v v + 2 * k * bil sq u v + k * k * bil sq u u) % p := fun k => by
    have e1 := b1 k (plusL p v u k)
    have e2 := b1 k v
    have e3 := b1 k u
    rw [bil_symm sq v, bil_symm sq u] at e1
    rw [bil_symm sq v u] at e3
    obtain ⟨r1, e1⟩ := cg_wit.1 e1
    obtain ⟨r2, e2⟩ := cg_wit.1 e2
    obtain ⟨r3, e3⟩ := cg_wit.1 e3
    exact cg_wit.2 ⟨r1 + r2 + k * r3, by grind⟩
  obtain ⟨rq, eq⟩ := cg_wit.1 hq
  refine ⟨fun hD => ?_, fun hD => ?_⟩
  · have hq2 : 2 * bil sq (plusL p v u (-1)) u % p = (-bil sq (plusL p v u (-1)) (plusL p v u (-1))) % p := by
      obtain ⟨r1, e1⟩ := cg_wit.1 (b1 (-1) u)
      obtain ⟨r2, e2⟩ := cg_wit.1 (b2 (-1))
      rw [bil_symm sq v u] at e1
      exact cg_wit.2 ⟨2 * r1 + r2 - rq, by grind⟩
    have hc := refl_half hP hD hq2
    show reflF p sq (plusL p v u (-1)) u = v
    unfold reflF
    rw [plusL_mod p u _ hc]
    refine list_ext_getD 0 (by rw [plusL_len, hu, hv]) fun i hi => ?_
    rw [plusL_len] at hi
    rw [getD_plus hi, getD_plus (by omega)]
    obtain ⟨v1, v2⟩ := hvn.getD hp i
    refine cg_eq ⟨Int.emod_nonneg _ (by omega), Int.emod_lt_of_pos _ hp⟩ ⟨v1, v2⟩ ?_
    rw [cg_self, Int.one_mul, Int.add_emod, cg_self, ← Int.add_emod]
    congr 1
    omega
  · obtain ⟨r2, e2⟩ := cg_wit.1 (b2 (-1))
    obtain ⟨r3, e3⟩ := cg_wit.1 (b2 1)
    obtain ⟨r4, e4⟩ := cg_wit.1 (hD.trans (Int.zero_emod p).symm)
    have hh := half_ok hP
    obtain ⟨rh, eh⟩ := cg_wit.1 hh
    -- (u, v) is the norm
    have hb : bil sq u v % p = bil sq u u % p := by
      obtain ⟨h, hh2⟩ : ∃ h, h = (p + 1) / 2 := ⟨_, rfl⟩
      rw [← hh2] at eh
      have e5 : 2 * (bil sq u v - bil sq u u) = p * (r2 - rq - r4) := by grind
      exact cg_wit.2 ⟨h * (r2 - rq - r4) - rh * (bil sq u v - bil sq u u), by grind⟩
    obtain ⟨rb, eb⟩ := cg_wit.1 hb
    have hD1 : bil sq (plusL p v u 1) (plusL p v u 1) % p = 4 * bil sq u u % p := cg_wit.2 ⟨r3 + 2 * rb - rq, by grind⟩
    have hD1n : bil sq (plusL p v u 1) (plusL p v u 1) % p ≠ 0 := by
      rw [hD1]
      refine mul_ne hP ?_ h0
      have h13 := (isP_ge hP).2
      have hodd : isP p = true := hP
      intro h4
      have : p ∣ 4 := Int.dvd_of_emod_eq_zero h4
      have hle := Int.le_of_dvd (by omega) this
      have : p = 3 := by
        simp [isP] at hodd
        omega
      subst this
      exact absurd h4 (by decide)
    refine ⟨hD1n, ?_⟩
    have hq2 : 2 * (-bil sq (plusL p v u 1) u) % p = (-bil sq (plusL p v u 1) (plusL p v u 1)) % p := by
      obtain ⟨r1, e1⟩ := cg_wit.1 (b1 1 u)
      rw [bil_symm sq v u] at e1
      obtain ⟨r6, e6⟩ := cg_wit.1 hD1
      exact cg_wit.2 ⟨r6 - 2 * r1 - 2 * rb, by grind⟩
    have hc := refl_half hP hD1n hq2
    have hc1 : (-(2 * bil sq (plusL p v u 1) u * invF p (bil sq (plusL p v u 1) (plusL p v u 1) % p))) % p = (-1) % p := by
      obtain ⟨k, hk⟩ := cg_wit.1 hc
      exact cg_wit.2 ⟨-k, by grind⟩
    have hr1 : reflF p sq (plusL p v u 1) u = plusL p u (plusL p v u 1) (-1) := by
      unfold reflF
      exact plusL_mod p u _ hc1
    obtain ⟨m, hm⟩ : ∃ m, m = plusL p u (plusL p v u 1) (-1) := ⟨_, rfl⟩
    have hml : m.length = sq.length := by rw [hm, plusL_len, hu]
    have hmi : ∀ i, i < sq.length → m.getD i 0 % p = (-(v.getD i 0)) % p := fun i hi => by
      rw [hm, getD_plus (by omega), getD_plus (by omega), cg_self]
      obtain ⟨k, hk⟩ := cg_wit.1 (cg_self p (v.getD i 0 + 1 * u.getD i 0))
      exact cg_wit.2 ⟨-k, by grind⟩
    have hbm : bil sq v m % p = (-(bil sq v v)) % p := by
      unfold bil
      rw [← Int.neg_one_mul, ← sumTo_mul]
      refine sumTo_mod p fun i hi => ?_
      obtain ⟨k, hk⟩ := cg_wit.1 (hmi i hi)
      exact cg_wit.2 ⟨k * v.getD i 0 * sq.getD i 0, by grind⟩
    show reflF p sq v (reflF p sq (plusL p v u 1) u) = v
    rw [hr1, ← hm]
    have hvv : bil sq v v % p ≠ 0 := by rw [← hq]; exact h0
    have hi : bil sq v v * invF p (bil sq v v % p) % p = 1 % p := by rw [inv_mod hP hvv, Int.emod_eq_of_lt (by omega) (by omega)]
    have hc2 : (-(2 * bil sq v m * invF p (bil sq v v % p))) % p = 2 % p := by
      obtain ⟨k, hk⟩ := cg_wit.1 hi
      obtain ⟨l, hl⟩ := cg_wit.1 hbm
      exact cg_wit.2 ⟨2 * k - 2 * l * invF p (bil sq v v % p), by grind⟩
    unfold reflF
    rw [plusL_mod p m _ hc2]
    refine list_ext_getD 0 (by rw [plusL_len, hml, hv]) fun i hi => ?_
    rw [plusL_len] at hi
    rw [getD_plus hi]
    obtain ⟨v1, v2⟩ := hvn.getD hp i
    refine cg_eq ⟨Int.emod_nonneg _ (by omega), Int.emod_lt_of_pos _ hp⟩ ⟨v1, v2⟩ ?_
    rw [cg_self]
    obtain ⟨k, hk⟩ := cg_wit.1 (hmi i (by omega))
    exact cg_wit.2 ⟨k, by grind⟩
/-- Products of vectors are versors: as lists. -/
theorem versL_vers (hP : isP p = true) (h6 : sq.length ≤ 6) (vs : List (List Int)) (hvs : ∀ v ∈ vs, v.length = sq.length ∧ NumsL p v ∧ bil sq v v % p ≠ 0) :
    versB p sq sq.length (versL p sq sq.length vs) = true ∧ nrmL p sq (versL p sq sq.length vs) = nrmP sq vs % p := by
  have h3 := (isP_ge hP).1
  have hp : 0 < p := by omega
  rw [versL_prod hp (by omega) vs fun v hv => (hvs v hv).2.1]
  exact Cl.prod_vers hP hp h6 vs fun v hv => (hvs v hv).2.2
theorem codeVr_mk {x : List Int} (hsp : isSp p sq = true) (hr : regB sq = true) (hx : x.length = pw sq.length) (hxn : NumsL p x) (hv : versB p sq sq.length x = true) : codeM p sq [x] = 0 ∧ codeR p sq [x] = 0 ∧ codeVr p sq x = 0 := by
  have h1 : codeM p sq [x] = 0 := codeM_mk hsp (fun ys hy => by rw [List.mem_singleton.1 hy]; exact ⟨hx, hxn⟩)
  have h2 : codeR p sq [x] = 0 := by unfold codeR; rw [if_pos h1, hr]; rfl
  exact ⟨h1, h2, by unfold codeVr; rw [if_pos h2, hv]; rfl⟩
end
end Go.Proofs.YtdbibmilicjllaaGreat
namespace Go.Proofs.YtdbibmilicjllaaGreat
section
variable {p : Int} {sq : List Int}
theorem inv_one (hP : isP p = true) {a : Int} (h0 : 0 ≤ a ∧ a < p) (ha : a ≠ 0) : a * invF p a % p = 1 % p := by
  have h3 := (isP_ge hP).1
  have := inv_mod hP (a := a) (by rw [Int.emod_eq_of_lt h0.1 h0.2]; exact ha)
  rw [Int.emod_eq_of_lt h0.1 h0.2] at this
  rw [this, Int.emod_eq_of_lt (by omega) (by omega)]
theorem Cl.prod_append (hp : 0 < p) (a b : List (List Int)) : (Cl.prod hp (a ++ b) : Cl p sq) = Cl.prod hp a * Cl.prod hp b := by
  unfold Cl.prod
  rw [List.foldl_append]
  exact Cl.prod_from hp b _
/-- What a reflection does to products. -/
theorem bil_plus2 {w v : List Int} (hw : w.length = sq.length) (k : Int) : bil sq (plusL p w v k) (plusL p w v k) % p = (bil sq w w + 2 * k * bil sq v w + k * k * bil sq v v) % p := by
  have e1 : bil sq (plusL p w v k) (plusL p w v k) % p = _ := bil_plus hw k
  have e2 : bil sq (plusL p w v k) w % p = _ := bil_plus hw k
  have e3 : bil sq (plusL p w v k) v % p = _ := bil_plus hw k
  rw [bil_symm sq w, bil_symm sq v] at e1
  rw [bil_symm sq w v] at e3
  obtain ⟨r1, e1⟩ := cg_wit.1 e1
  obtain ⟨r2, e2⟩ := cg_wit.1 e2
  obtain ⟨r3, e3⟩ := cg_wit.1 e3
  exact cg_wit.2 ⟨r1 + r2 + k * r3, by grind⟩
theorem refl_refl (hP : isP p = true) {v w : List Int} (hw : w.length = sq.length) (hwn : NumsL p w) (hv : bil sq v v % p ≠ 0) : reflF p sq v (reflF p sq v w) = w := by
  have h3 := (isP_ge hP).1
  have hp : 0 < p := by omega
  have hi : bil sq v v * invF p (bil sq v v % p) % p = 1 % p := by rw [inv_mod hP hv, Int.emod_eq_of_lt (by omega) (by omega)]
  obtain ⟨i, hii⟩ : ∃ i, i = invF p (bil sq v v % p) := ⟨_, rfl⟩
  obtain ⟨k, hk⟩ := cg_wit.1 hi
  have hb : bil sq v (reflF p sq v w) % p = (-bil sq v w) % p := by
    have e : bil sq (reflF p sq v w) v % p = (bil sq w v + -(2 * bil sq v w * i) * bil sq v v) % p := by rw [hii]; exact bil_plus hw _
    rw [bil_symm sq w v] at e
    rw [bil_symm sq v, e]
    rw [← hii] at hk
    exact cg_wit.2 ⟨-(2 * bil sq v w * k), by grind⟩
  obtain ⟨m, hm⟩ : ∃ m, m = reflF p sq v w := ⟨_, rfl⟩
  have hml : m.length = sq.length := by rw [hm]; exact reflF_len.trans hw
  rw [← hm] at hb ⊢
  have hc : (-(2 * bil sq v m * invF p (bil sq v v % p))) % p = (2 * bil sq v w * i) % p := by
    rw [← hii]
    obtain ⟨l, hl⟩ := cg_wit.1 hb
    exact cg_wit.2 ⟨-(2 * l * i), by grind⟩
  unfold reflF
  rw [plusL_mod p m _ hc]
  refine list_ext_getD 0 (by rw [plusL_len, hml, hw]) fun j hj => ?_
  rw [plusL_len] at hj
  rw [getD_plus hj]
  obtain ⟨v1, v2⟩ := hwn.getD hp j
  refine cg_eq ⟨Int.emod_nonneg _ (by omega), Int.emod_lt_of_pos _ hp⟩ ⟨v1, v2⟩ ?_
  have e4 : m.getD j 0 = (w.getD j 0 + -(2 * bil sq v w * i) * v.getD j 0) % p := by rw [hm, hii]; unfold reflF; exact getD_plus (by omega)
  rw [cg_self, e4, Int.add_emod, cg_self, ← Int.add_emod]
  congr 1
  grind
theorem rflL_reflF (hP : isP p = true) {u v : List Int} (hu : u.length = sq.length) : rflL p sq u v = reflF p sq u v := by
  have h3 := (isP_ge hP).1
  have h1 := pairL_bil (p := p) (u := v) hu
  have h2 := pairL_bil (p := p) (u := u) hu
  have hs := pairL_small (P := p) (by omega) sq u u
  rw [Int.emod_eq_of_lt hs.1 hs.2] at h2
  unfold rflL reflF
  rw [h2]
  refine plusL_mod p v u ?_
  obtain ⟨k, hk⟩ := cg_wit.1 h1
  exact cg_wit.2 ⟨-(2 * k * invF p (bil sq u u % p)), by grind⟩
/-- A good list of vectors: of the right length, numbers, norms other than 0. -/
def Good (p : Int) (sq : List Int) (L : List (List Int)) : Prop := ∀ v ∈ L, v.length = sq.length ∧ NumsL p v ∧ bil sq v v % p ≠ 0
theorem Good.nums {L : List (List Int)} (h : Good p sq L) : ∀ v ∈ L, NumsL p v := fun v hv => (h v hv).2.1
end
end Go.Proofs.YtdbibmilicjllaaGreat
namespace Go.Proofs.YtdbibmilicjllaaGreat
/-- The columns of the matrix of a reflection, and the matrix. -/
def rcolsL (P : Int) (sq : List Int) (n : Nat) (u : List Int) : List (List Int) := tab n fun k => rflL P sq u (unitRow n k)
def rmatL (P : Int) (sq : List Int) (n : Nat) (u : List Int) : List (List Int) := transL (rcolsL P sq n u)
theorem rcolsL_tab {P : Int} (hp : 2 ≤ P) (sq : List Int) (n : Nat) (u : List Int) : Tab P n (rcolsL P sq n u) := Tab.tab fun _ _ => ⟨by rw [rflL_len, unitRow_len], rflL_nums (by omega) _ _ _⟩
theorem rcolsL_len (P : Int) (sq : List Int) (n : Nat) (u : List Int) : (rcolsL P sq n u).length = n := tab_len _ _
theorem rmatL_tab {P : Int} (hp : 2 ≤ P) (sq : List Int) (n : Nat) (u : List Int) : Tab P n (rmatL P sq n u) := by
  have := transL_tab (p := P) (by omega) (rcolsL_tab hp sq n u)
  rwa [rcolsL_len] at this
theorem rmatL_len {P : Int} (hp : 2 ≤ P) (sq : List Int) {n : Nat} (h0 : 0 < n) (u : List Int) : (rmatL P sq n u).length = n := transL_len (rcolsL_tab hp sq n u) (by rw [rcolsL_len]; exact h0)
end Go.Proofs.YtdbibmilicjllaaGreat
namespace Go.Proofs.YtdbibmilicjllaaGreat
/-- Row r less the multiple of row i that makes its place i 0. -/
def dRow (p : Int) (m : List (List Int)) (i r : Nat) : List Int := plusL p (m.getD r []) (m.getD i []) (-(ent m r i) * invF p (ent m i i))
/-- The rows behind row i and ahead of row j, cleared at place i. -/
def dClr (p : Int) (m : List (List Int)) (i j : Nat) : List (List Int) := tab m.length fun r => if i < r ∧ r < j then dRow p m i r else m.getD r []
/-- The determinant, step by step. -/
def detF (p : Int) : Nat → List (List Int) → Nat → Int → Int
  | 0, _, _, out => out
  | f + 1, m, i, out => if pivOf m i i = m.length then 0 else
      detF p f (dClr p (swapL m i (pivOf m i i)) i m.length) (i + 1) ((if pivOf m i i = i then out else (-out) % p) * ent (swapL m i (pivOf m i i)) i i % p)
def detL (p : Int) (m : List (List Int)) : Int := detF p m.length m 0 1
section
variable {p : Int} {n : Nat} {m : List (List Int)} {i j : Nat}
theorem dClr_len (p : Int) (m : List (List Int)) (i j : Nat) : (dClr p m i j).length = m.length := tab_len _ _
theorem dClr_start (p : Int) (m : List (List Int)) (i : Nat) : dClr p m i (i + 1) = m := by
  refine List.ext_getElem (tab_len _ _) fun r h1 h2 => ?_
  have h := tab_getD (d := []) (n := m.length) (f := fun r => if i < r ∧ r < i + 1 then dRow p m i r else m.getD r []) h2
  rw [if_neg (by omega), getD_of_lt [] h2] at h
  rw [← getD_of_lt [] h1]
  exact h
theorem dClr_getD {r : Nat} (h : r < m.length) : (dClr p m i j).getD r [] = if i < r ∧ r < j then dRow p m i r else m.getD r [] := tab_getD h []
theorem dClr_succ (hj : j < m.length) (h : i < j) : dClr p m i (j + 1) = (dClr p m i j).set j (dRow p m i j) := by
  refine list_ext_getD [] (by rw [List.length_set, dClr_len, dClr_len]) fun r hr => ?_
  rw [dClr_len] at hr
  rw [getD_set, dClr_getD hr, dClr_getD hr, dClr_len]
  by_cases e : j = r
  · subst e
    rw [if_pos ⟨h, by omega⟩, if_pos ⟨rfl, hj⟩]
  · rw [if_neg (c := j = r ∧ _) (fun h => e h.1)]
    by_cases h2 : i < r ∧ r < j
    · rw [if_pos ⟨h2.1, by omega⟩, if_pos h2]
    · rw [if_neg fun h3 => h2 ⟨h3.1, by omega⟩, if_neg h2]
theorem dClr_tab (hp : 0 < p) (h : Tab p n m) (i j : Nat) : Tab p n (dClr p m i j) := Tab.tab fun r hr => by
  split
  · exact ⟨by unfold dRow; rw [plusL_len, (h.row hr).1], plusL_nums hp _ _ _⟩
  · exact h.row hr
theorem swapL_comm (m : List (List Int)) {i j : Nat} (h : i ≠ j) : swapL m i j = swapL m j i := by
  unfold swapL
  rw [List.set_comm _ _ h]
theorem swapL_same (m : List (List Int)) {i : Nat} (hi : i < m.length) : swapL m i i = m := by
  unfold swapL
  refine list_ext_getD [] (by simp) fun r hr => ?_
  rw [getD_set, getD_set]
  by_cases e : i = r
  · subst e; rw [if_pos ⟨rfl, by simpa using hi⟩]
  · rw [if_neg fun h => e h.1, if_neg fun h => e h.1]
theorem detF_small (hp : 0 < p) : ∀ (f : Nat) (m : List (List Int)) (i : Nat) (out : Int), 0 ≤ out ∧ out < p → 0 ≤ detF p f m i out ∧ detF p f m i out < p := by
  intro f
  induction f with
  | zero => intro m i out h; exact h
  | succ f ih =>
    intro m i out h
    unfold detF
    split
    · omega
    · exact ih _ _ _ ⟨Int.emod_nonneg _ (by omega), Int.emod_lt_of_pos _ hp⟩
theorem detL_small (hp : 2 ≤ p) (m : List (List Int)) : 0 ≤ detL p m ∧ detL p m < p := detF_small (by omega) _ _ _ _ (by omega)
theorem detF_none {f : Nat} {out : Int} (h : pivOf m i i = m.length) : detF p (f + 1) m i out = 0 := by unfold detF; rw [if_pos h]
theorem detF_step {f : Nat} {out : Int} (h : ¬ pivOf m i i = m.length) : detF p (f + 1) m i out = detF p f (dClr p (swapL m i (pivOf m i i)) i m.length) (i + 1) ((if pivOf m i i = i then out else (-out) % p) * ent (swapL m i (pivOf m i i)) i i % p) := by
  conv => lhs; unfold detF
  rw [if_neg h]
theorem mul_b {a b : Int} (ha : 0 ≤ a ∧ a ≤ 1000) (hb : 0 ≤ b ∧ b ≤ 1000) : 0 ≤ a * b ∧ a * b ≤ 1000000 := by
  refine ⟨Int.mul_nonneg ha.1 hb.1, ?_⟩
  have := Int.mul_le_mul ha.2 hb.2 hb.1 (by omega : (0 : Int) ≤ 1000)
  omega
end
end Go.Proofs.YtdbibmilicjllaaGreat
namespace Go.Proofs.YtdbibmilicjllaaGreat
theorem vecTo_get (n : Nat) (v : List Int) {b : Nat} (hb : b < pw n) : ∀ k, k ≤ n → (vecTo n v k).getD b 0 = sumTo k fun i => if b = 2 ^ i then v.getD i 0 else 0 := by
  intro k
  induction k with
  | zero =>
    intro _
    show (List.replicate (pw n) (0 : Int)).getD b 0 = 0
    rw [getD_of_lt 0 (by simpa using hb)]; simp
  | succ k ih =>
    intro hk
    rw [vecTo_succ, getD_set, vecTo_len, sumTo_succ, ih (by omega)]
    by_cases h : b = 2 ^ k
    · rw [if_pos ⟨h.symm, by rw [← h]; exact hb⟩, if_pos h, sumTo_zero (fun i hi => if_neg (fun e => by
        have := Nat.pow_lt_pow_right (show 1 < 2 by omega) hi
        omega)), Int.zero_add]
    · rw [if_neg (fun e => h e.1.symm), if_neg h, Int.add_zero]
theorem bit_iff (a i : Nat) : bit a i = 1 ↔ a.testBit i = true := by rw [Nat.testBit_eq_decide_div_mod_eq]; unfold bit; simp
theorem and_pow_zero (s i : Nat) : ((s ^^^ 2 ^ i) &&& 2 ^ i == 0) = s.testBit i := by
  have h : (s ^^^ 2 ^ i).testBit i = !s.testBit i := by rw [Nat.testBit_xor, Nat.testBit_two_pow_self]; simp
  cases hs : s.testBit i with
  | true =>
    rw [hs] at h
    rw [beq_iff_eq]
    apply Nat.eq_of_testBit_eq
    intro j
    rw [Nat.testBit_and, Nat.testBit_two_pow, Nat.zero_testBit]
    by_cases hj : i = j
    · subst hj; rw [h]; rfl
    · simp [hj]
  | false =>
    rw [hs] at h
    cases hc : ((s ^^^ 2 ^ i) &&& 2 ^ i == 0) with
    | false => rfl
    | true =>
      have := congrArg (fun x => Nat.testBit x i) (beq_iff_eq.1 hc)
      simp only [Nat.testBit_and, Nat.testBit_two_pow_self, h, Nat.zero_testBit] at this
      cases this
/-- The outer product with a vector, number by number. -/
theorem wedge_vec (P : Int) (sq W v : List Int) (n S : Nat) (hW : W.length = pw n) (hS : S < pw n) :
    (wedgeL P sq W (vecTo n v n)).getD S 0 = (sumTo n fun i => if S.testBit i then W.getD (S ^^^ 2 ^ i) 0 * v.getD i 0 * fac P sq (S ^^^ 2 ^ i) (2 ^ i) else 0) % P := by
  unfold wedgeL
  rw [prodL_getD P sq _ W (vecTo n v n) n S hW (vecTo_len n v n) hS]
  congr 1
  rw [sumTo_congr (g := fun a => sumTo n fun i => if a = S ^^^ 2 ^ i then (if S.testBit i then W.getD (S ^^^ 2 ^ i) 0 * v.getD i 0 * fac P sq (S ^^^ 2 ^ i) (2 ^ i) else 0) else 0) fun a ha => ?_, sumTo_comm]
  · refine sumTo_congr fun i hi => ?_
    have h2 : 2 ^ i < pw n := Nat.pow_lt_pow_right (by omega) hi
    rw [sumTo_one (f := fun a => if a = S ^^^ 2 ^ i then (if S.testBit i then W.getD (S ^^^ 2 ^ i) 0 * v.getD i 0 * fac P sq (S ^^^ 2 ^ i) (2 ^ i) else 0) else 0) (S ^^^ 2 ^ i) (xor_lt hS h2) (fun a _ hne => if_neg hne), if_pos rfl]
  · unfold term
    have hx : a ^^^ S < pw n := xor_lt ha hS
    rw [vecTo_get n v hx n (Nat.le_refl _)]
    by_cases ht : ((a &&& (a ^^^ S)) == 0) = true
    · rw [if_pos ht, Int.mul_comm (W.getD a 0), Int.mul_assoc, Int.mul_comm _ (W.getD a 0 * _), ← sumTo_mul]
      refine sumTo_congr fun i hi => ?_
      by_cases h : a ^^^ S = 2 ^ i
      · have ha' : a = S ^^^ 2 ^ i := by rw [← h, Nat.xor_comm a, ← Nat.xor_assoc, Nat.xor_self, Nat.zero_xor]
        have hs : S.testBit i = true := by rw [← and_pow_zero, ← ha', ← h]; exact ht
        rw [if_pos h, if_pos ha', if_pos hs, ← ha', ← h, Int.mul_assoc, Int.mul_assoc, Int.mul_comm (fac P sq a (a ^^^ S))]
      · rw [if_neg h, Int.mul_zero, if_neg (fun e => h (by rw [e, Nat.xor_comm, ← Nat.xor_assoc, Nat.xor_self, Nat.zero_xor]))]
    · rw [if_neg ht]
      refine (sumTo_zero fun i hi => ?_).symm
      by_cases h : a = S ^^^ 2 ^ i
      · rw [if_pos h, if_neg]
        rw [← and_pow_zero, ← h]
        intro hh
        refine ht ?_
        have : a ^^^ S = 2 ^ i := by rw [h, Nat.xor_comm, ← Nat.xor_assoc, Nat.xor_self, Nat.zero_xor]
        rw [this]; exact hh
      · exact if_neg h
theorem fac_above (P : Int) (sq : List Int) {a c : Nat} (h : a < 2 ^ c) : fac P sq a (2 ^ c) = 1 := by
  have hb : ∀ i, bit (2 ^ c) i = 1 → i = c := fun i hi => by
    rw [bit_iff, Nat.testBit_two_pow] at hi
    exact (by simpa using hi : c = i).symm
  have h1 : ∀ i, swaps a (2 ^ c) i = 0 := by
    intro i
    induction i with
    | zero => rfl
    | succ i ih =>
      simp only [swaps, ih, Nat.zero_add]
      split
      · rename_i hi
        rw [hb i hi, Nat.div_eq_of_lt (Nat.lt_of_lt_of_le h (Nat.pow_le_pow_right (by omega) (by omega))), pc_zero]
      · rfl
  have h2 : ∀ i, common P sq a (2 ^ c) i = 1 := by
    intro i
    induction i with
    | zero => rfl
    | succ i ih =>
      simp only [common]
      rw [if_neg, ih]
      rintro ⟨hi, ha⟩
      rw [hb i hi] at ha
      unfold bit at ha
      rw [Nat.div_eq_of_lt h] at ha; simp at ha
  unfold fac
  rw [h1, h2]; rfl
/-- The mask of the first places. -/
def maskTo (B : List (List Int)) : Nat → Nat
  | 0 => 0
  | k + 1 => maskTo B k ^^^ 2 ^ ld B k
theorem maskTo_lt {n : Nat} {B : List (List Int)} (hR : Red n B) : ∀ k, k ≤ B.length → maskTo B k < pw n := by
  intro k
  induction k with
  | zero => intro _; exact pw_pos n
  | succ k ih => intro hk; exact xor_lt (ih (by omega)) (Nat.pow_lt_pow_right (by omega) (hR.lt k hk))
theorem maskTo_below {n : Nat} {B : List (List Int)} (hR : Red n B) : ∀ k, k < B.length → maskTo B k < 2 ^ ld B k := by
  intro k
  induction k with
  | zero => intro _; exact Nat.two_pow_pos _
  | succ k ih =>
    intro hk
    have h1 := ih (by omega)
    have h2 := hR.mono k (k + 1) (by omega) hk
    have h3 : 2 ^ ld B k < 2 ^ ld B (k + 1) := Nat.pow_lt_pow_right (by omega) h2
    exact Nat.xor_lt_two_pow (by omega) h3
theorem maskTo_bits (B : List (List Int)) : ∀ k, k ≤ B.length → ∀ i, (maskTo B k).testBit i = true → isLd B i = true := by
  intro k
  induction k with
  | zero => intro _ i h; rw [show maskTo B 0 = 0 from rfl, Nat.zero_testBit] at h; cases h
  | succ k ih =>
    intro hk i h
    rw [show maskTo B (k + 1) = maskTo B k ^^^ 2 ^ ld B k from rfl, Nat.testBit_xor, Nat.testBit_two_pow] at h
    by_cases hi : ld B k = i
    · exact isLd_iff.2 ⟨k, hk, hi⟩
    · simp [hi] at h; exact ih (by omega) i h
theorem wedges_at {P : Int} (hp : 2 ≤ P) (sq : List Int) {n : Nat} {B : List (List Int)} (hR : Red n B) :
    ∀ k, k ≤ B.length → ∀ S, S < pw n → (∀ i, S.testBit i = true → isLd B i = true) → (wedgesL P sq n (B.take k)).getD S 0 = if S = maskTo B k then 1 else 0 := by
  intro k
  induction k with
  | zero =>
    intro _ S hS _
    show (bladeL n 0).getD S 0 = _
    rw [bladeL_getD n 0 S hS]
    by_cases h : 0 = S
    · rw [if_pos h, if_pos (show S = maskTo B 0 from h.symm)]
    · rw [if_neg h, if_neg (show ¬ S = maskTo B 0 from fun e => h e.symm)]
  | succ k ih =>
    intro hk S hS hb
    have hkl : k < B.length := by omega
    rw [List.take_succ_eq_append_getElem hkl, wedgesL_snoc, wedge_vec P sq _ _ n S (wedgesL_len P sq n _ _ rfl) hS]
    obtain ⟨c, hc⟩ : ∃ c, c = ld B k := ⟨_, rfl⟩
    have hcn : c < n := by rw [hc]; exact hR.lt k hkl
    have hent : ∀ i, (B[k]).getD i 0 = ent B k i := fun i => by unfold ent; rw [getD_of_lt [] hkl]
    rw [sumTo_one c hcn (fun i hi hic => by
      by_cases ht : S.testBit i = true
      · obtain ⟨j, hj, rfl⟩ := isLd_iff.1 (hb i ht)
        have hjk : k ≠ j := fun e => hic (by rw [hc, e])
        rw [if_pos ht, hent, hR.zero j k hj hkl hjk, Int.mul_zero, Int.zero_mul]
      · rw [if_neg ht])]
    have hone : (B[k]).getD c 0 = 1 := by rw [hent, hc]; exact hR.one k hkl
    have hm : maskTo B (k + 1) = maskTo B k ^^^ 2 ^ c := by rw [hc]; rfl
    have hlow := maskTo_below hR k hkl
    rw [← hc] at hlow
    by_cases ht : S.testBit c = true
    · rw [if_pos ht, hone, ih (by omega) (S ^^^ 2 ^ c) (xor_lt hS (Nat.pow_lt_pow_right (by omega) hcn)) (fun i hi => by
        rw [Nat.testBit_xor, Nat.testBit_two_pow] at hi
        by_cases hci : c = i
        · exact hb i (hci ▸ ht)
        · simp [hci] at hi; exact hb i hi), hm]
      by_cases he : S ^^^ 2 ^ c = maskTo B k
      · have hS' : S = maskTo B k ^^^ 2 ^ c := by rw [← he, Nat.xor_assoc, Nat.xor_self, Nat.xor_zero]
        rw [if_pos he, if_pos hS', he, fac_above P sq hlow, Int.one_mul, Int.one_mul, Int.emod_eq_of_lt (by omega) (by omega)]
      · have hS' : ¬ S = maskTo B k ^^^ 2 ^ c := fun e => he (by rw [e, Nat.xor_assoc, Nat.xor_self, Nat.xor_zero])
        rw [if_neg he, if_neg hS', Int.zero_mul, Int.zero_mul]; simp
    · rw [if_neg ht, if_neg]
      · simp
      · intro e
        refine ht ?_
        rw [e, hm, Nat.testBit_xor, Nat.testBit_lt_two_pow hlow, Nat.testBit_two_pow_self]; rfl
end Go.Proofs.YtdbibmilicjllaaGreat
namespace Go.Proofs.YtdbibmilicjllaaGreat
theorem transL_row {m : List (List Int)} {n q : Nat} {p : Int} (hT : Tab p n m) (h0 : 0 < m.length) (hq : q < n) : (transL m).getD q [] = tab m.length fun i => ent m i q := by
  unfold transL
  rw [row0_len hT h0, tab_getD hq]
theorem apply_at {p : Int} {n : Nat} {a : List (List Int)} (hT : Tab p n a) (h0 : 0 < a.length) (z : List Int) {q : Nat} (hq : q < n) : (applyL p (transL a) z).getD q 0 = (sumTo a.length fun i => ent a i q * z.getD i 0) % p := by
  unfold applyL
  rw [tab_getD (by rw [transL_len hT h0]; exact hq), transL_row hT h0 hq]
  unfold dotL
  rw [tab_len]
  congr 1
  exact sumTo_congr fun i hi => by rw [tab_getD hi]
theorem take_getD {α : Type} (d : α) (z : List α) {k i : Nat} (h : i < k) : (z.take k).getD i d = z.getD i d := by
  by_cases hz : i < z.length
  · rw [getD_of_lt d (by rw [List.length_take]; omega), getD_of_lt d hz, List.getElem_take]
  · rw [getD_of_ge d (by rw [List.length_take]; omega), getD_of_ge d (by omega)]
end Go.Proofs.YtdbibmilicjllaaGreat
namespace Go.Proofs.YtdbibmilicjllaaGreat
section
variable {p : Int} {sq : List Int}
instance : Std.Associative (α := Cl p sq) (· + ·) := ⟨Cl.add_assoc⟩
instance : Std.Commutative (α := Cl p sq) (· + ·) := ⟨Cl.add_comm⟩
end
end Go.Proofs.YtdbibmilicjllaaGreat
namespace Go.Proofs.YtdbibmilicjllaaGreat
open Go.RowKit
set_option maxHeartbeats 1600000 in
set_option maxRecDepth 8000 in
theorem timesM_any (p : Int) (A : Option Addr) (n c : Nat) (M : List (List Int)) (B : Option Addr) (d : Nat) (N : List (List Int)) (w : World) (hp : 2 ≤ p) (hp2 : p ≤ 13) (h0 : 0 < n) (hn : n ≤ 65536) (ha : RdII w A n M) (hM : Tab p n M) (hb : RdII w B n N) (hN : Tab p n N) :
    Calls Tryz.prog 172 #[.int .i64 p, .slice A n c, .slice B n d] w fun e w' => ∃ A' c', e = .returned (.slice A' n c') ∧ MkII w w' A' n c' (timesM p M N) := by
  have HT := Lib.hid hM
  have HL := Lib.hid ha.len
  have HTT : Hid (Tab p n (transL N)) := Lib.hid (by have := transL_tab (show 0 < p by omega) hN; rwa [hb.len] at this)
  have hcall := transpose_any p B n d N n w h0 hn hn hb hN
  clear hM hN hb
  go_enter Tryz.func172, Tryz.ntmps172
  go_wp2_with fail
  refine hcall.mono ?_
  rintro e w1 ⟨T, cT, rfl, hT1⟩
  have hM0 : MkII w1 (w1.alloc (.cells #[] 24)) (some ⟨w1.heap.size, 0, none⟩) 0 0 [] := MkII.empty (Below.refl _ _)
  have HB1 := Lib.hid hT1.b
  have ha1 := ha.below hT1.b
  have hTr := hT1.rd
  clear hcall hT1 ha
  go_wp2
  go_loopw [8, 16] (fun out i wr => ∃ (k : Nat) (A' : Option Addr) (c' : Nat), k ≤ n ∧ i = .int .i64 k ∧ out = .slice A' k c' ∧ MkII w1 wr A' k c' (tab k fun i => applyL p (transL N) (M.getD i []))) (fun _ i _ => n - (intOf i).toNat)
  case atStart => exact ⟨0, _, _, by omega, rfl, rfl, by simpa [tab] using hM0⟩
  case round =>
    obtain ⟨k, A', c', hk, rfl, rfl, hM⟩ := hrel
    clear hM0
    by_cases hlt : k < n
    · obtain ⟨g, o, rfl, hxk, A1, c1, hcx, hr1, _⟩ := (ha1.below hM.b).at_ hlt
      obtain ⟨hl1, hn1⟩ := HT.out M[k] (List.getElem_mem hxk)
      rw [hl1] at hcx hr1
      have hap := apply_any p T n cT (transL N) A1 n c1 M[k] wr hp hp2 hn hn (hTr.below hM.b) HTT.out hr1 hn1
      have HV : Hid ((tab (k + 1) fun i => applyL p (transL N) (M.getD i [])) = (tab k fun i => applyL p (transL N) (M.getD i [])) ++ [applyL p (transL N) M[k]]) := Lib.hid (by rw [tab_succ, getD_of_lt [] hxk])
      have HM := Lib.hid hM
      clear hM hr1 hl1 hn1 hTr ha1
      go_wp2_with fail
      refine hap.mono ?_
      rintro e w5 ⟨A5, c5, rfl, hM5⟩
      clear hap
      go_wp2_with (at_builtin; refine wpList_appRow w1 wr _ rfl _ _ rfl A' k c' _ A5 n c5 _ HM.out hM5 (by omega) rfl ?_ ?_; (go_simp); intro A6 c6 w6 hM6)
      go_roundw
      case rel => exact ⟨k + 1, A6, c6, by omega, by go_num, rfl, by rw [HV.out]; exact hM6⟩
      case measure => simp [intOf]; omega
    · obtain rfl : k = n := by omega
      go_wp2
      go_ret
      exact ⟨_, _, rfl, by unfold timesM; rw [HL.out]; exact hM.after HB1.out⟩
end Go.Proofs.YtdbibmilicjllaaGreat
namespace Go.Proofs.YtdbibmilicjllaaGreat
open Go.RowKit
theorem timesM_row {p : Int} {n : Nat} {M N : List (List Int)} (h0 : 0 < n) (_hM : Tab p n M) (hN : Tab p n N) (hMl : M.length = n) (hNl : N.length = n) {i : Nat} (_hi : i < n) :
    applyL p (transL N) (M.getD i []) = tab n fun k => (sumTo n fun j => ent M i j * ent N j k) % p := by
  unfold applyL
  rw [transL_len hN (by omega)]
  refine tab_congr fun k hk => ?_
  have hrow : (transL N).getD k [] = tab n fun j => ent N j k := by
    unfold transL
    rw [(hN.row (show 0 < N.length by omega)).1, tab_getD hk [], hNl]
  rw [hrow]
  unfold dotL
  rw [tab_len]
  congr 1
  refine sumTo_congr fun j hj => ?_
  rw [tab_getD hj 0, Int.mul_comm]
  rfl
set_option maxHeartbeats 3200000 in
set_option maxRecDepth 8000 in
theorem l02Times_any (p : Int) (A : Option Addr) (n c : Nat) (M : List (List Int)) (B : Option Addr) (d : Nat) (N : List (List Int)) (w : World) (hp : 2 ≤ p) (hp2 : p ≤ 13) (h0 : 0 < n) (hn : n ≤ 65536) (ha : RdII w A n M) (hM : Tab p n M) (hb : RdII w B n N) (hN : Tab p n N) :
    Calls Tryz.prog 182 #[.int .i64 p, .slice A n c, .slice B n d] w fun e w' => ∃ A' c', e = .returned (.slice A' n c') ∧ MkII w w' A' n c' (timesM p M N) := by
  have HMT := Lib.hid hM
  have HNT := Lib.hid hN
  have HML := Lib.hid ha.len
  have HNL := Lib.hid hb.len
  have HROW : Hid (∀ i, i < n → applyL p (transL N) (M.getD i []) = tab n fun k => (sumTo n fun j => ent M i j * ent N j k) % p) := Lib.hid (fun i hi => timesM_row h0 hM hN ha.len hb.len hi)
  have hM0 : MkII w (w.alloc (.cells #[] 24)) (some ⟨w.heap.size, 0, none⟩) 0 0 [] := MkII.empty (Below.refl _ _)
  obtain ⟨g, o, rfl, _⟩ := ha.at_ h0
  obtain ⟨g3, o3, rfl, _⟩ := hb.at_ h0
  clear hM hN
  go_enter Tryz.func182, Tryz.ntmps182
  go_wp2
  obtain ⟨w1, hw1⟩ : ∃ W, W = w.alloc (.cells #[] 24) := ⟨_, rfl⟩
  rw [← hw1] at hM0 ⊢
  clear hw1
  go_loopw [7, 8] (fun out i wr => ∃ (i' : Nat) (A' : Option Addr) (c' : Nat), i' ≤ n ∧ i = .int .i64 i' ∧ out = .slice A' i' c' ∧ MkII w wr A' i' c' (tab i' fun i => applyL p (transL N) (M.getD i []))) (fun _ i _ => n - (intOf i).toNat)
  case atStart => exact ⟨0, _, _, by omega, rfl, rfl, by simpa [tab] using hM0⟩
  case round =>
    obtain ⟨i, A', c', hi, rfl, rfl, hM⟩ := hrel
    clear hM0
    obtain ⟨wo, rfl⟩ : ∃ W, W = wr := ⟨_, rfl⟩
    by_cases hlt : i < n
    · have hr0 := Mk.lit (E := 2) (Below.refl wo.heap.size wo) #[] (by simp)
      have hR0 : MkI wo (wo.alloc (.cells #[] 2)) (some ⟨wo.heap.size, 0, none⟩) 0 0 [] := by simpa [MkI, ints] using hr0
      have HM := Lib.hid hM
      clear hr0 hM
      go_wp2
      go_loopw [9, 10] (fun row k w2 => ∃ (k' : Nat) (A2 : Option Addr) (c2 : Nat), k' ≤ n ∧ k = .int .i64 k' ∧ row = .slice A2 k' c2 ∧ MkI wo w2 A2 k' c2 (tab k' fun k => (sumTo n fun j => ent M i j * ent N j k) % p)) (fun _ k _ => n - (intOf k).toNat)
      case atStart => exact ⟨0, _, _, by omega, rfl, rfl, by simpa [tab] using hR0⟩
      case round =>
        obtain ⟨k, A2, c2, hk, rfl, rfl, hR⟩ := hrel
        clear hR0
        obtain ⟨wm, rfl⟩ : ∃ W, W = wr := ⟨_, rfl⟩
        have hbb := HM.out.b.trans (hR.b.mono HM.out.b.size)
        obtain ⟨A0, c0, hcx0⟩ := (hb.below hbb).row0 h0 HNT.out
        have HR := Lib.hid hR
        by_cases hlk : k < n
        · have ha2 := ha.below hbb
          have hb2 := hb.below hbb
          clear hR hbb ha hb
          go_wp2
          clear hcx0
          go_loopw [11, 12] (fun s j w3 => ∃ j' : Nat, j' ≤ n ∧ j = .int .i64 j' ∧ s = .int .i64 ((sumTo j' fun j => ent M i j * ent N j k) % p) ∧ Below wm.heap.size wm w3) (fun _ j _ => n - (intOf j).toNat)
          case atStart => exact ⟨0, by omega, rfl, by simp [sumTo], Below.refl _ _⟩
          case round =>
            obtain ⟨j, hj, rfl, rfl, hB3⟩ := hrel
            have hstep := Lib.hid (sumTo_step p j fun j => ent M i j * ent N j k)
            have s1 := Int.emod_nonneg (sumTo j fun j => ent M i j * ent N j k) (show p ≠ 0 by omega)
            have s2 := Int.emod_lt_of_pos (sumTo j fun j => ent M i j * ent N j k) (show 0 < p by omega)
            have hend : Hid (j = n → (sumTo n fun j => ent M i j * ent N j k) % p = (sumTo j fun j => ent M i j * ent N j k) % p) := Lib.hid (fun h => by rw [h])
            obtain ⟨s, hs⟩ : ∃ s, s = (sumTo j fun j => ent M i j * ent N j k) % p := ⟨_, rfl⟩
            rw [← hs] at s1 s2 hstep hend ⊢
            clear hs
            by_cases hlj : j < n
            · obtain ⟨g', o', e', hxi, A1, c1, hcx1, hr1, _⟩ := (ha2.below hB3).at_ hlt
              injection e' with e'; injection e' with e1 e2 _
              subst e1; subst e2
              obtain ⟨hl1, hn1⟩ := HMT.out M[i] (List.getElem_mem hxi)
              rw [hl1] at hcx1 hr1
              obtain ⟨g2, o2, rfl, hxe1, hce1⟩ := hr1.int hlj
              obtain ⟨g', o', e', hxj, A3, c3, hcx2, hr3, _⟩ := (hb2.below hB3).at_ hlj
              injection e' with e'; injection e' with e1 e2 _
              subst e1; subst e2
              obtain ⟨hl3, hn3⟩ := HNT.out N[j] (List.getElem_mem hxj)
              rw [hl3] at hcx2 hr3
              obtain ⟨g4, o4, rfl, hxe3, hce2⟩ := hr3.int hlk
              obtain ⟨x1, x2⟩ := hn1 _ (List.getElem_mem hxe1)
              obtain ⟨y1, y2⟩ := hn3 _ (List.getElem_mem hxe3)
              obtain ⟨m1, m2⟩ := mul_small x1 (show M[i][j] ≤ 13 by omega) y1 (show N[j][k] ≤ 13 by omega)
              have HV : Hid ((sumTo (j + 1) fun j => ent M i j * ent N j k) % p = (s + M[i][j] * N[j][k]) % p) := Lib.hid (by rw [← hstep.out, ent_at hxi hxe1, ent_at hxj hxe3])
              have W1 := i64_fit (M[i][j] * N[j][k]) (by omega) (by omega)
              have W2 := i64_fit (s + M[i][j] * N[j][k]) (by omega) (by omega)
              have W3 : (s + M[i][j] * N[j][k]).tmod p = (s + M[i][j] * N[j][k]) % p := Int.tmod_eq_emod_of_nonneg (by omega)
              have hP0 : ¬ p = 0 := by omega
              have i1 : (0 : Int) ≤ (i : Int) := by omega
              have i2 : (i : Int) < (n : Int) := by omega
              have i3 : (0 : Int) ≤ (j : Int) := by omega
              have i4 : (j : Int) < (n : Int) := by omega
              have i5 : (0 : Int) ≤ (k : Int) := by omega
              have i6 : (k : Int) < (n : Int) := by omega
              clear hr1 hl1 hn1 hr3 hl3 hn3 ha2 hb2
              go_wp2
              refine wp_obs 19 [[], [], [], [1, 2], [1, 2, 3], [], [1, 2, 3, 4, 5], [1, 2, 3, 4, 5, 6], [], [], [8, 9], [8, 9, 10], [], [8, 9, 10, 11, 12], [8, 9, 10, 11, 12, 13], [1, 2, 3, 4, 5, 6, 7, 8, 9, 10, 11, 12, 13, 14], [0, 1, 2, 3, 4, 5, 6, 7, 8, 9, 10, 11, 12, 13, 14, 15], [], [0, 1, 2, 3, 4, 5, 6, 7, 8, 9, 10, 11, 12, 13, 14, 15, 16, 17], [0, 1, 2, 3, 4, 5, 6, 7, 8, 9, 10, 11, 12, 13, 14, 15, 16, 17, 18]] [VIs (.int .i64 (s)), VIs (.slice (some ⟨g, o, none⟩) n c), VIs (.int .i64 (i)), VIs (.pointer (some ⟨g, o + i, none⟩)), VIs (.slice (some ⟨g2, o2, none⟩) n c1), VIs (.int .i64 (j)), VIs (.pointer (some ⟨g2, o2 + j, none⟩)), VIs (.int .i64 (M[i][j])), VIs (.slice (some ⟨g3, o3, none⟩) n d), VIs (.int .i64 (j)), VIs (.pointer (some ⟨g3, o3 + j, none⟩)), VIs (.slice (some ⟨g4, o4, none⟩) n c3), VIs (.int .i64 (k)), VIs (.pointer (some ⟨g4, o4 + k, none⟩)), VIs (.int .i64 (N[j][k])), VIs (.int .i64 (M[i][j] * N[j][k])), VIs (.int .i64 (s + M[i][j] * N[j][k])), VIs (.int .i64 (p)), VIs (.int .i64 ((s + M[i][j] * N[j][k]) % p))] (fun w' => w'.cell? ⟨g, o + i, none⟩ = some (.slice (some ⟨g2, o2, none⟩) n c1) ∧ w'.cell? ⟨g2, o2 + j, none⟩ = some (.int .i64 M[i][j]) ∧ w'.cell? ⟨g3, o3 + j, none⟩ = some (.slice (some ⟨g4, o4, none⟩) n c3) ∧ w'.cell? ⟨g4, o4 + k, none⟩ = some (.int .i64 N[j][k]) ∧ Below wm.heap.size wm w') (by kernel_rfl) (by kernel_rfl) (fun _ _ h hb => ⟨(hb.cell (World.block_lt_of_cell? _ _ h.1)).trans h.1, (hb.cell (World.block_lt_of_cell? _ _ h.2.1)).trans h.2.1, (hb.cell (World.block_lt_of_cell? _ _ h.2.2.1)).trans h.2.2.1, (hb.cell (World.block_lt_of_cell? _ _ h.2.2.2.1)).trans h.2.2.2.1, h.2.2.2.2.trans (hb.mono h.2.2.2.2.size)⟩) (⟨hcx1, hce1, hcx2, hce2, hB3.drew⟩) (fun x => ?_)
              refine obs_step (Eq.trans (by simp only [zA, zC]; exact rfl) rfl) rfl (fun w' hS hV K hK => ?_) ?_
              · obtain ⟨q0, q1, q2, q3, _⟩ := hS
                go_simp
                exact hK.out _ _ _ rfl rfl rfl (Below.refl _ _)
              simp only [zD, zE, zF]
              refine obs_step (Eq.trans (by simp only [zA, zB, zC]; exact rfl) rfl) rfl (fun w' hS hV K hK => ?_) ?_
              · obtain ⟨q0, q1, q2, q3, _⟩ := hS
                go_simp
                exact hK.out _ _ _ rfl rfl rfl (Below.refl _ _)
              simp only [zD, zE, zF]
              refine obs_step (Eq.trans (by simp only [zA, zB, zC]; exact rfl) rfl) rfl (fun w' hS hV K hK => ?_) ?_
              · obtain ⟨q0, q1, q2, q3, _⟩ := hS
                go_simp
                exact hK.out _ _ _ rfl rfl rfl (Below.refl _ _)
              simp only [zD, zE, zF]
              refine obs_step (Eq.trans (by simp only [zA, zB, zC]; exact rfl) rfl) rfl (fun w' hS hV K hK => ?_) ?_
              · have e1 : x 1 = (.slice (some ⟨g, o, none⟩) n c) := hV 1 (by decide)
                have e2 : x 2 = (.int .i64 (i)) := hV 2 (by decide)
                obtain ⟨q0, q1, q2, q3, _⟩ := hS
                go_simp
                exact hK.out _ _ _ rfl rfl rfl (Below.refl _ _)
              simp only [zD, zE, zF]
              refine obs_step (Eq.trans (by simp only [zA, zB, zC]; exact rfl) rfl) rfl (fun w' hS hV K hK => ?_) ?_
              · have e3 : x 3 = (.pointer (some ⟨g, o + i, none⟩)) := hV 3 (by decide)
                obtain ⟨q0, q1, q2, q3, _⟩ := hS
                go_simp
                exact hK.out _ _ _ rfl rfl rfl (Below.refl _ _)
              simp only [zD, zE, zF]
              refine obs_step (Eq.trans (by simp only [zA, zB, zC]; exact rfl) rfl) rfl (fun w' hS hV K hK => ?_) ?_
              · obtain ⟨q0, q1, q2, q3, _⟩ := hS
                go_simp
                exact hK.out _ _ _ rfl rfl rfl (Below.refl _ _)
              simp only [zD, zE, zF]
              refine obs_step (Eq.trans (by simp only [zA, zB, zC]; exact rfl) rfl) rfl (fun w' hS hV K hK => ?_) ?_
              · have e4 : x 4 = (.slice (some ⟨g2, o2, none⟩) n c1) := hV 4 (by decide)
                have e5 : x 5 = (.int .i64 (j)) := hV 5 (by decide)
                obtain ⟨q0, q1, q2, q3, _⟩ := hS
                go_simp
                exact hK.out _ _ _ rfl rfl rfl (Below.refl _ _)
              simp only [zD, zE, zF]
              refine obs_step (Eq.trans (by simp only [zA, zB, zC]; exact rfl) rfl) rfl (fun w' hS hV K hK => ?_) ?_
              · have e6 : x 6 = (.pointer (some ⟨g2, o2 + j, none⟩)) := hV 6 (by decide)
                obtain ⟨q0, q1, q2, q3, _⟩ := hS
                go_simp
                exact hK.out _ _ _ rfl rfl rfl (Below.refl _ _)
              simp only [zD, zE, zF]
              refine obs_step (Eq.trans (by simp only [zA, zB, zC]; exact rfl) rfl) rfl (fun w' hS hV K hK => ?_) ?_
              · obtain ⟨q0, q1, q2, q3, _⟩ := hS
                go_simp
                exact hK.out _ _ _ rfl rfl rfl (Below.refl _ _)
              simp only [zD, zE, zF]
              refine obs_step (Eq.trans (by simp only [zA, zB, zC]; exact rfl) rfl) rfl (fun w' hS hV K hK => ?_) ?_
              · obtain ⟨q0, q1, q2, q3, _⟩ := hS
                go_simp
                exact hK.out _ _ _ rfl rfl rfl (Below.refl _ _)
              simp only [zD, zE, zF]
              refine obs_step (Eq.trans (by simp only [zA, zB, zC]; exact rfl) rfl) rfl (fun w' hS hV K hK => ?_) ?_
              · have e8 : x 8 = (.slice (some ⟨g3, o3, none⟩) n d) := hV 8 (by decide)
                have e9 : x 9 = (.int .i64 (j)) := hV 9 (by decide)
                obtain ⟨q0, q1, q2, q3, _⟩ := hS
                go_simp
                exact hK.out _ _ _ rfl rfl rfl (Below.refl _ _)
              simp only [zD, zE, zF]
              refine obs_step (Eq.trans (by simp only [zA, zB, zC]; exact rfl) rfl) rfl (fun w' hS hV K hK => ?_) ?_
              · have e10 : x 10 = (.pointer (some ⟨g3, o3 + j, none⟩)) := hV 10 (by decide)
                obtain ⟨q0, q1, q2, q3, _⟩ := hS
                go_simp
                exact hK.out _ _ _ rfl rfl rfl (Below.refl _ _)
              simp only [zD, zE, zF]
              refine obs_step (Eq.trans (by simp only [zA, zB, zC]; exact rfl) rfl) rfl (fun w' hS hV K hK => ?_) ?_
              · obtain ⟨q0, q1, q2, q3, _⟩ := hS
                go_simp
                exact hK.out _ _ _ rfl rfl rfl (Below.refl _ _)
              simp only [zD, zE, zF]
              refine obs_step (Eq.trans (by simp only [zA, zB, zC]; exact rfl) rfl) rfl (fun w' hS hV K hK => ?_) ?_
              · have e11 : x 11 = (.slice (some ⟨g4, o4, none⟩) n c3) := hV 11 (by decide)
                have e12 : x 12 = (.int .i64 (k)) := hV 12 (by decide)
                obtain ⟨q0, q1, q2, q3, _⟩ := hS
                go_simp
                exact hK.out _ _ _ rfl rfl rfl (Below.refl _ _)
              simp only [zD, zE, zF]
              refine obs_step (Eq.trans (by simp only [zA, zB, zC]; exact rfl) rfl) rfl (fun w' hS hV K hK => ?_) ?_
              · have e13 : x 13 = (.pointer (some ⟨g4, o4 + k, none⟩)) := hV 13 (by decide)
                obtain ⟨q0, q1, q2, q3, _⟩ := hS
                go_simp
                exact hK.out _ _ _ rfl rfl rfl (Below.refl _ _)
              simp only [zD, zE, zF]
              refine obs_step (Eq.trans (by simp only [zA, zB, zC]; exact rfl) rfl) rfl (fun w' hS hV K hK => ?_) ?_
              · have e7 : x 7 = (.int .i64 (M[i][j])) := hV 7 (by decide)
                have e14 : x 14 = (.int .i64 (N[j][k])) := hV 14 (by decide)
                obtain ⟨q0, q1, q2, q3, _⟩ := hS
                go_simp
                exact hK.out _ _ _ rfl rfl rfl (Below.refl _ _)
              simp only [zD, zE, zF]
              refine obs_step (Eq.trans (by simp only [zA, zB, zC]; exact rfl) rfl) rfl (fun w' hS hV K hK => ?_) ?_
              · have e0 : x 0 = (.int .i64 (s)) := hV 0 (by decide)
                have e15 : x 15 = (.int .i64 (M[i][j] * N[j][k])) := hV 15 (by decide)
                obtain ⟨q0, q1, q2, q3, _⟩ := hS
                go_simp
                exact hK.out _ _ _ rfl rfl rfl (Below.refl _ _)
              simp only [zD, zE, zF]
              refine obs_step (Eq.trans (by simp only [zA, zB, zC]; exact rfl) rfl) rfl (fun w' hS hV K hK => ?_) ?_
              · obtain ⟨q0, q1, q2, q3, _⟩ := hS
                go_simp
                exact hK.out _ _ _ rfl rfl rfl (Below.refl _ _)
              simp only [zD, zE, zF]
              refine obs_step (Eq.trans (by simp only [zA, zB, zC]; exact rfl) rfl) rfl (fun w' hS hV K hK => ?_) ?_
              · have e16 : x 16 = (.int .i64 (s + M[i][j] * N[j][k])) := hV 16 (by decide)
                have e17 : x 17 = (.int .i64 (p)) := hV 17 (by decide)
                obtain ⟨q0, q1, q2, q3, _⟩ := hS
                go_simp
                exact hK.out _ _ _ rfl rfl rfl (Below.refl _ _)
              simp only [zD, zE, zF]
              refine fun w' hS hV => ?_
              have e0 : x 0 = (.int .i64 (s)) := hV 0 (by decide)
              have e1 : x 1 = (.slice (some ⟨g, o, none⟩) n c) := hV 1 (by decide)
              have e2 : x 2 = (.int .i64 (i)) := hV 2 (by decide)
              have e3 : x 3 = (.pointer (some ⟨g, o + i, none⟩)) := hV 3 (by decide)
              have e4 : x 4 = (.slice (some ⟨g2, o2, none⟩) n c1) := hV 4 (by decide)
              have e5 : x 5 = (.int .i64 (j)) := hV 5 (by decide)
              have e6 : x 6 = (.pointer (some ⟨g2, o2 + j, none⟩)) := hV 6 (by decide)
              have e7 : x 7 = (.int .i64 (M[i][j])) := hV 7 (by decide)
              have e8 : x 8 = (.slice (some ⟨g3, o3, none⟩) n d) := hV 8 (by decide)
              have e9 : x 9 = (.int .i64 (j)) := hV 9 (by decide)
              have e10 : x 10 = (.pointer (some ⟨g3, o3 + j, none⟩)) := hV 10 (by decide)
              have e11 : x 11 = (.slice (some ⟨g4, o4, none⟩) n c3) := hV 11 (by decide)
              have e12 : x 12 = (.int .i64 (k)) := hV 12 (by decide)
              have e13 : x 13 = (.pointer (some ⟨g4, o4 + k, none⟩)) := hV 13 (by decide)
              have e14 : x 14 = (.int .i64 (N[j][k])) := hV 14 (by decide)
              have e15 : x 15 = (.int .i64 (M[i][j] * N[j][k])) := hV 15 (by decide)
              have e16 : x 16 = (.int .i64 (s + M[i][j] * N[j][k])) := hV 16 (by decide)
              have e17 : x 17 = (.int .i64 (p)) := hV 17 (by decide)
              have e18 : x 18 = (.int .i64 ((s + M[i][j] * N[j][k]) % p)) := hV 18 (by decide)
              simp only [e0, e1, e2, e3, e4, e5, e6, e7, e8, e9, e10, e11, e12, e13, e14, e15, e16, e17, e18]
              clear e0 e1 e2 e3 e4 e5 e6 e7 e8 e9 e10 e11 e12 e13 e14 e15 e16 e17 e18
              refine any_one (j := 19) (by kernel_rfl) (Eq.trans (by simp only [zA, zB, zC]; exact rfl) rfl) (fun K hK => ?_)
              go_simp
              refine hK.out _ _ (wpAny_done (by kernel_rfl) ?_ _)
              have hB4 := hS.2.2.2.2
              go_wp2
              go_roundw
              case rel => exact ⟨j + 1, by omega, by go_num, by rw [HV.out], hB4⟩
              case measure => simp [intOf]; omega
            · have HB3 := Lib.hid hB3
              have hR4 := HR.out.below hB3
              clear ha2 hb2
              go_wp2_with (at_builtin; refine wpList_app1 wo _ 24 2 _ _ Tryz.underlying24 info_i rfl (by omega) rfl _ _ rfl A2 k c2 _ _ hR4 (by omega) rfl rfl rfl ?_; intro A4 c4 w4 hM4 _ _)
              go_roundw
              case rel => exact ⟨k + 1, A4, c4, by omega, by go_num, rfl, by rw [tab_succ, hend.out (by omega)]; simpa [MkI, ints] using hM4⟩
              case measure => simp [intOf]; omega
        · obtain rfl : k = n := by omega
          clear hR ha hb
          go_wp2_with (at_builtin; refine wpList_appRow w wo _ rfl _ _ rfl A' i c' _ A2 k c2 _ HM.out HR.out (by omega) rfl ?_ ?_; (go_simp); intro A4 c4 w4 hM4)
          go_roundw
          case rel => exact ⟨i + 1, A4, c4, by omega, by go_num, rfl, by rw [tab_succ, HROW.out i hlt]; exact hM4⟩
          case measure => simp [intOf]; omega
    · go_wp2
      go_ret
      obtain rfl : i = n := by omega
      exact ⟨_, _, rfl, by unfold timesM; rw [HML.out]; exact hM⟩
end Go.Proofs.YtdbibmilicjllaaGreat
namespace Go.Proofs.YtdbibmilicjllaaGreat
open Go.RowKit
theorem dotL_small {p : Int} (hp : 0 < p) (a b : List Int) : 0 ≤ dotL p a b ∧ dotL p a b < p := ⟨Int.emod_nonneg _ (by omega), Int.emod_lt_of_pos _ hp⟩
theorem timesM_tab {p : Int} {n : Nat} {M N : List (List Int)} (hp : 0 < p) (h0 : 0 < n) (hN : Tab p n N) (hNl : N.length = n) : Tab p n (timesM p M N) :=
  Tab.tab fun _ _ => ⟨by unfold applyL; rw [tab_len, transL_len hN (by omega)], NumsL.tab fun _ _ => dotL_small hp _ _⟩
end Go.Proofs.YtdbibmilicjllaaGreat
namespace Go.Proofs.YtdbibmilicjllaaGreat
section
variable {p : Int} {sq : List Int}
theorem bil_unit {a b : Nat} (_ha : a < sq.length) (hb : b < sq.length) : bil sq (unitRow sq.length a) (unitRow sq.length b) = if a = b then sq.getD b 0 else 0 := by
  unfold bil
  rw [sumTo_one b hb fun j hj hne => by rw [unitRow_getD (k := b) hj, if_neg fun e => hne e.symm, Int.mul_zero, Int.zero_mul], unitRow_getD hb, unitRow_getD hb, if_pos rfl]
  split <;> simp
end
end Go.Proofs.YtdbibmilicjllaaGreat
namespace Go.Proofs.YtdbibmilicjllaaGreat
section
variable {p : Int} {sq : List Int}
/-- The multivector with 1 at one place. -/
def Cl.at_ (hp : 0 < p) (m : Nat) : Cl p sq := Cl.of hp fun q => if q = m then 1 else 0
end
end Go.Proofs.YtdbibmilicjllaaGreat
namespace Go.Proofs.YtdbibmilicjllaaGreat
/-- All squares 0. -/
abbrev zs (n : Nat) : List Int := List.replicate n 0
theorem zs_len (n : Nat) : (zs n).length = n := List.length_replicate
theorem zs_get (n i : Nat) : (zs n).getD i 0 = 0 := by
  rw [List.getD_eq_getElem?_getD, List.getElem?_replicate]; split <;> rfl
theorem comZ_apart (sq : List Int) {a b : Nat} (h : ∀ i, ¬ (bit b i = 1 ∧ bit a i = 1)) : ∀ k, comZ sq a b k = 1 := by
  intro k
  induction k with
  | zero => rfl
  | succ k ih => simp only [comZ]; rw [ih, if_neg (h k)]; rfl
theorem comZ_hit (n : Nat) {a b i : Nat} (h : bit b i = 1 ∧ bit a i = 1) : ∀ k, i < k → comZ (zs n) a b k = 0 := by
  intro k
  induction k with
  | zero => intro h; omega
  | succ k ih =>
    intro hk
    simp only [comZ]
    by_cases e : i = k
    · subst e; rw [if_pos h, zs_get, Int.mul_zero]
    · rw [ih (by omega), Int.zero_mul]
theorem and_zero_iff (a b : Nat) : (a &&& b = 0) ↔ ∀ i, ¬ (bit b i = 1 ∧ bit a i = 1) := by
  constructor
  · intro h i hi
    have := congrArg (fun x => x.testBit i) h
    simp only [Nat.testBit_and, Nat.zero_testBit, (bit_iff a i).1 hi.2, (bit_iff b i).1 hi.1] at this
    exact absurd this (by decide)
  · intro h
    refine Nat.eq_of_testBit_eq fun i => ?_
    rw [Nat.testBit_and, Nat.zero_testBit]
    cases ha : a.testBit i
    · rfl
    · cases hb : b.testBit i
      · rfl
      · exact absurd ⟨(bit_iff b i).2 hb, (bit_iff a i).2 ha⟩ (h i)
theorem facZ_apart {sq : List Int} {n a b : Nat} (hn : sq.length = n) (h : a &&& b = 0) : facZ sq a b = facZ (zs n) a b := by
  unfold facZ
  rw [hn, zs_len, comZ_apart sq ((and_zero_iff a b).1 h), comZ_apart (zs n) ((and_zero_iff a b).1 h)]
theorem facZ_hit {n a b : Nat} (ha : a < pw n) (h : ¬ a &&& b = 0) : facZ (zs n) a b = 0 := by
  unfold facZ
  rw [zs_len]
  have h1 : ¬ ∀ i, ¬ (bit b i = 1 ∧ bit a i = 1) := fun h2 => h ((and_zero_iff a b).2 h2)
  obtain ⟨i, hi⟩ := Classical.not_forall.1 h1
  have hi' := Classical.not_not.1 hi
  have hin : i < n := by
    rcases Nat.lt_or_ge i n with h | h
    · exact h
    · have := bit_high (b := a) (n := n) ha h
      rw [this] at hi'
      exact absurd hi'.2 (by decide)
  rw [comZ_hit n hi' n hin, Int.mul_zero]
section
variable {p : Int} {n : Nat}
/-- Outer products are products with all squares 0. -/
theorem wedge_mul {sq : List Int} (hn : sq.length = n) {xs ys : List Int} (hx : xs.length = pw n) (hy : ys.length = pw n) : wedgeL p sq xs ys = mulL p (zs n) xs ys := by
  refine list_ext_getD 0 (by rw [wedgeL_len, mulL_len]) fun m hm => ?_
  rw [wedgeL_len, hx] at hm
  unfold wedgeL mulL
  rw [prodL_getD p sq _ xs ys n m hx hy hm, prodL_getD p (zs n) _ xs ys n m hx hy hm]
  refine sumTo_mod p fun a ha => ?_
  unfold term
  by_cases h : a &&& (a ^^^ m) = 0
  · have hb : (fun a b : Nat => a &&& b == 0) a (a ^^^ m) = true := by show (a &&& (a ^^^ m) == 0) = true; rw [h]; rfl
    rw [if_pos hb, if_pos rfl, Int.mul_emod, fac_facZ, facZ_apart hn h, ← fac_facZ, ← Int.mul_emod]
  · rw [if_neg (by simpa using h), if_pos rfl, Int.mul_emod, fac_facZ, facZ_hit ha h, Int.zero_emod, Int.mul_zero, Int.zero_emod]
theorem wedge_cl' {sq : List Int} (hn : sq.length = n) (x y : Cl p (zs n)) : wedgeL p sq x.l y.l = (x * y).l := by
  rw [wedge_mul hn (x.len.trans (by rw [zs_len])) (y.len.trans (by rw [zs_len])), Cl.mul_l]
theorem bil_zs (u v : List Int) : bil (zs n) u v = 0 := by
  unfold bil
  exact sumTo_zero fun i _ => by rw [zs_get, Int.mul_zero]
theorem Cl.zz (hp : 0 < p) (hP : isP p = true) (v : List Int) : (Cl.vec hp v : Cl p (zs n)) * Cl.vec hp v = Cl.zero hp := by
  rw [Cl.vec_sq hp hP, bil_zs, Cl.zero_sm]
theorem Cl.za (hp : 0 < p) (u v : List Int) : (Cl.vec hp u : Cl p (zs n)) * Cl.vec hp v = (-1 : Int) * (Cl.vec hp v * Cl.vec hp u) := by
  have h := Cl.vec_anti hp u v (sq := zs n)
  rw [bil_zs, Int.mul_zero, Cl.zero_sm] at h
  have e := Cl.add_back ((Cl.vec hp u : Cl p (zs n)) * Cl.vec hp v) (Cl.vec hp v * Cl.vec hp u) 1
  rw [Cl.one_sm] at e
  rw [← e, h, Cl.add_comm, Cl.add_zero]
/-- A vector of the list times the product of the list is 0. -/
theorem Cl.in_prod (hp : 0 < p) (hP : isP p = true) : ∀ (L : List (List Int)) (v : List Int), v ∈ L → (Cl.vec hp v : Cl p (zs n)) * Cl.prod hp L = Cl.zero hp
  | [], v, h => by cases h
  | u :: L, v, h => by
    rw [Cl.prod_cons]
    rcases List.mem_cons.1 h with rfl | h
    · rw [← Cl.mul_assoc, Cl.zz hp hP, Cl.zero_mul]
    · rw [← Cl.mul_assoc, Cl.za, Cl.sm_mul, Cl.mul_assoc, Cl.in_prod hp hP L v h, Cl.mul_zero, ← Cl.zero_sm (Cl.one hp), Cl.sm_sm, Int.mul_zero]
theorem Cl.vec_sp (hp : 0 < p) {sq : List Int} {B : List (List Int)} {v : List Int} {c : Nat → Int} (h : ∀ q, q < sq.length → v.getD q 0 % p = (sumTo B.length fun i => c i * ent B i q) % p) :
    (Cl.vec hp v : Cl p sq) = Cl.sum hp B.length fun i => c i * Cl.vec hp (B.getD i []) := Cl.same fun m hm => by
  rw [Cl.vec_co hp v hm, Cl.sum_co hp _ hm]
  have e2 : (sumTo B.length fun i => (c i * Cl.vec hp (B.getD i []) : Cl p sq).co m) % p = (sumTo B.length fun i => c i * sumTo sq.length fun q => if m = 2 ^ q then (B.getD i []).getD q 0 else 0) % p :=
    sumTo_mod p fun i _ => by rw [Cl.sm_co _ _ hm, Int.mul_emod, Cl.vec_co hp _ hm, ← Int.mul_emod]
  rw [e2]
  rcases Classical.em (∃ q, q < sq.length ∧ m = 2 ^ q) with ⟨q, hq, rfl⟩ | hno
  · rw [sumTo_one q hq fun j _ hne => if_neg fun e => hne (pow_inj e).symm, if_pos rfl, h q hq]
    refine sumTo_mod p fun i _ => ?_
    rw [sumTo_one q hq fun j _ hne => if_neg fun e => hne (pow_inj e).symm, if_pos rfl]; rfl
  · rw [sumTo_zero fun q hq => if_neg fun e => hno ⟨q, hq, e⟩, sumTo_zero fun i _ => by rw [sumTo_zero fun q hq => if_neg fun e => hno ⟨q, hq, e⟩, Int.mul_zero]]
theorem Cl.sum_mul (hp : 0 < p) {sq : List Int} (y : Cl p sq) (f : Nat → Cl p sq) : ∀ k, Cl.sum hp k f * y = Cl.sum hp k fun i => f i * y := by
  intro k
  induction k with
  | zero => exact Cl.zero_mul hp y
  | succ k ih => show (Cl.sum hp k f + f k) * y = _; rw [Cl.add_mul, ih]; rfl
theorem Cl.sum_zero (hp : 0 < p) {sq : List Int} {f : Nat → Cl p sq} : ∀ k, (∀ i, i < k → f i = Cl.zero hp) → Cl.sum hp k f = Cl.zero hp
  | 0, _ => rfl
  | k + 1, h => by
    show Cl.sum hp k f + f k = _
    rw [Cl.sum_zero hp k fun i hi => h i (by omega), h k (by omega), Cl.add_zero]
/-- A vector of the span times the product is 0. -/
theorem Cl.span_prod (hp : 0 < p) (hP : isP p = true) {B : List (List Int)} {v : List Int} (h : Sp p n B fun q => v.getD q 0) : (Cl.vec hp v : Cl p (zs n)) * Cl.prod hp B = Cl.zero hp := by
  obtain ⟨c, hc⟩ := h
  rw [Cl.vec_sp hp (B := B) (c := c) (fun q hq => hc q (by rw [zs_len] at hq; exact hq)), Cl.sum_mul]
  refine Cl.sum_zero hp _ fun i hi => ?_
  rw [Cl.sm_mul, Cl.in_prod hp hP B _ (getD_mem [] hi), ← Cl.zero_sm (Cl.one hp), Cl.sm_sm, Int.mul_zero]
theorem wedges_prod {sq : List Int} (hn : sq.length = n) (hp : 0 < p) (h2 : 2 ≤ p) : ∀ (k : Nat) (L : List (List Int)), L.length = k → (∀ v ∈ L, NumsL p v) → wedgesL p sq n L = (Cl.prod hp L : Cl p (zs n)).l := by
  intro k
  induction k with
  | zero =>
    intro L h _
    rw [List.eq_nil_of_length_eq_zero h]
    show bladeL n 0 = (Cl.one hp : Cl p (zs n)).l
    rw [Cl.one_l h2, zs_len]
  | succ k ih =>
    intro L h hN
    have hne : L ≠ [] := fun e => by rw [e] at h; cases h
    rw [← List.dropLast_concat_getLast hne] at hN ⊢
    rw [wedgesL_snoc, Cl.prod_snoc, ih L.dropLast (by rw [List.length_dropLast]; omega) fun v hv => hN v (List.mem_append_left _ hv)]
    have hv := hN (L.getLast hne) (by simp)
    have e : vecTo n (L.getLast hne) n = (Cl.vec hp (L.getLast hne) : Cl p (zs n)).l := by rw [Cl.vec_l hp hv, zs_len]
    rw [e, wedge_cl' hn]
end
end Go.Proofs.YtdbibmilicjllaaGreat
namespace Go.Proofs.YtdbibmilicjllaaGreat
section
variable {p : Int} {n : Nat}
theorem Cl.zero_addz (x : Cl p (zs n)) (hp : 0 < p) : Cl.zero hp + x = x := by rw [Cl.add_comm, Cl.add_zero]
theorem Cl.sm_zero (hp : 0 < p) {sq : List Int} (k : Int) : k * (Cl.zero hp : Cl p sq) = Cl.zero hp := by
  rw [← Cl.zero_sm (Cl.one hp), Cl.sm_sm, Int.mul_zero]
theorem Cl.prod_at (hp : 0 < p) (h2 : 2 ≤ p) {B : List (List Int)} (hR : Red n B) (hT : Tab p n B) : (Cl.prod hp B : Cl p (zs n)).co (maskTo B B.length) = 1 := by
  unfold Cl.co
  rw [← wedges_prod (sq := zs n) (zs_len n) hp h2 B.length B rfl fun v hv => (hT v hv).2]
  have := wedges_at (P := p) h2 (zs n) hR B.length (Nat.le_refl _) _ (maskTo_lt hR _ (Nat.le_refl _)) (fun i hi => maskTo_bits B B.length (Nat.le_refl _) i hi)
  rwa [List.take_length, if_pos rfl] at this
theorem Cl.squeeze (hp : 0 < p) (hP : isP p = true) (v : List Int) : ∀ L : List (List Int), (Cl.vec hp v : Cl p (zs n)) * Cl.prod hp L * Cl.vec hp v = Cl.zero hp
  | [] => by
    show (Cl.vec hp v : Cl p (zs n)) * Cl.one hp * Cl.vec hp v = _
    rw [Cl.mul_one, Cl.zz hp hP]
  | u :: L => by
    rw [Cl.prod_cons, ← Cl.mul_assoc, Cl.za, Cl.sm_mul, Cl.sm_mul, Cl.mul_assoc (Cl.vec hp u), Cl.mul_assoc (Cl.vec hp u), Cl.squeeze hp hP v L, Cl.mul_zero, Cl.sm_zero]
theorem Cl.prod_in (hp : 0 < p) (hP : isP p = true) : ∀ (L : List (List Int)) (v : List Int), v ∈ L → (Cl.prod hp L : Cl p (zs n)) * Cl.vec hp v = Cl.zero hp
  | [], v, h => by cases h
  | u :: L, v, h => by
    rw [Cl.prod_cons]
    rcases List.mem_cons.1 h with rfl | h
    · exact Cl.squeeze hp hP v L
    · rw [Cl.mul_assoc, Cl.prod_in hp hP L v h, Cl.mul_zero]
theorem Cl.prod_set (hp : 0 < p) {sq : List Int} (L : List (List Int)) {i : Nat} (hi : i < L.length) (v : List Int) : (Cl.prod hp (L.set i v) : Cl p sq) = Cl.prod hp (L.take i) * (Cl.vec hp v * Cl.prod hp (L.drop (i + 1))) := by
  rw [List.set_eq_take_append_cons_drop, if_pos hi, Cl.prod_append, Cl.prod_cons]
theorem set_self (L : List (List Int)) {i : Nat} (hi : i < L.length) : L.set i (L.getD i []) = L := by
  refine list_ext_getD [] (by rw [List.length_set]) fun j _ => ?_
  rw [getD_set]
  by_cases h : i = j
  · subst h; rw [if_pos ⟨rfl, hi⟩]
  · rw [if_neg fun e => h e.1]
theorem Cl.prod_split (hp : 0 < p) {sq : List Int} (L : List (List Int)) {i : Nat} (hi : i < L.length) : (Cl.prod hp L : Cl p sq) = Cl.prod hp (L.take i) * (Cl.vec hp (L.getD i []) * Cl.prod hp (L.drop (i + 1))) := by
  rw [← Cl.prod_set hp L hi, set_self L hi]
theorem Cl.prod_rep' (hp : 0 < p) (hP : isP p = true) (L : List (List Int)) {i j : Nat} (hij : i < j) (hj : j < L.length) (h : L.getD i [] = L.getD j []) : (Cl.prod hp L : Cl p (zs n)) = Cl.zero hp := by
  have hm : L.getD j [] ∈ L.take j := by
    rw [← h, ← take_getD [] L hij]
    exact getD_mem [] (by rw [List.length_take]; omega)
  rw [Cl.prod_split hp L hj, ← Cl.mul_assoc, Cl.prod_in hp hP _ _ hm, Cl.zero_mul]
theorem Cl.prod_rep (hp : 0 < p) (hP : isP p = true) (L : List (List Int)) {i j : Nat} (hij : i ≠ j) (hi : i < L.length) (hj : j < L.length) (h : L.getD i [] = L.getD j []) : (Cl.prod hp L : Cl p (zs n)) = Cl.zero hp := by
  rcases Nat.lt_or_gt_of_ne hij with h1 | h1
  · exact Cl.prod_rep' hp hP L h1 hj h
  · exact Cl.prod_rep' hp hP L h1 hi h.symm
theorem Cl.set_plus (hp : 0 < p) {sq : List Int} (L : List (List Int)) {j : Nat} (hj : j < L.length) {a : List Int} (b : List Int) (ha : a.length = sq.length) (k : Int) :
    (Cl.prod hp (L.set j (plusL p a b k)) : Cl p sq) = Cl.prod hp (L.set j a) + k * Cl.prod hp (L.set j b) := by
  rw [Cl.prod_set hp L hj, Cl.prod_set hp L hj, Cl.prod_set hp L hj, Cl.vec_plus hp ha, Cl.add_mul, Cl.mul_add, Cl.sm_mul, Cl.mul_sm]
theorem Cl.set_scale (hp : 0 < p) {sq : List Int} (L : List (List Int)) {j : Nat} (hj : j < L.length) {a : List Int} (ha : a.length = sq.length) (k : Int) :
    (Cl.prod hp (L.set j (scaleL p a k)) : Cl p sq) = k * Cl.prod hp (L.set j a) := by
  rw [Cl.prod_set hp L hj, Cl.prod_set hp L hj, Cl.vec_scale hp ha, Cl.sm_mul, Cl.mul_sm]
/-- A multiple of another row. -/
theorem Cl.prod_plus (hp : 0 < p) (hP : isP p = true) {L : List (List Int)} (hT : Tab p n L) {j d : Nat} (hj : j < L.length) (hd : d < L.length) (hjd : j ≠ d) (k : Int) :
    (Cl.prod hp (L.set j (plusL p (L.getD j []) (L.getD d []) k)) : Cl p (zs n)) = Cl.prod hp L := by
  rw [Cl.set_plus hp L hj _ ((hT.row hj).1.trans (zs_len n).symm), set_self L hj, Cl.prod_rep hp hP (L.set j (L.getD d [])) hjd (by rw [List.length_set]; exact hj) (by rw [List.length_set]; exact hd) (by
    rw [getD_set, if_pos ⟨rfl, hj⟩, getD_set, if_neg fun e => hjd e.1]), Cl.sm_zero, Cl.add_zero]
/-- Two rows exchanged. -/
theorem Cl.prod_swap (hp : 0 < p) (hP : isP p = true) {L : List (List Int)} (hT : Tab p n L) {i j : Nat} (hi : i < L.length) (hj : j < L.length) (hij : i ≠ j) :
    (Cl.prod hp (swapL L i j) : Cl p (zs n)) = (-1 : Int) * Cl.prod hp L := by
  obtain ⟨a, ha⟩ : ∃ a, a = L.getD i [] := ⟨_, rfl⟩
  obtain ⟨b, hb⟩ : ∃ b, b = L.getD j [] := ⟨_, rfl⟩
  have la : a.length = (zs n).length := by rw [ha, (hT.row hi).1, zs_len]
  obtain ⟨s, hs⟩ : ∃ s, s = plusL p a b 1 := ⟨_, rfl⟩
  have rep : ∀ v : List Int, (Cl.prod hp ((L.set i v).set j v) : Cl p (zs n)) = Cl.zero hp := fun v =>
    Cl.prod_rep hp hP _ hij (by rw [List.length_set, List.length_set]; exact hi) (by rw [List.length_set, List.length_set]; exact hj) (by
      rw [getD_set, if_neg fun e => hij e.1.symm, getD_set, if_pos ⟨rfl, hi⟩, getD_set, if_pos ⟨rfl, by rw [List.length_set]; exact hj⟩])
  have comm : ∀ u v : List Int, (L.set i u).set j v = (L.set j v).set i u := fun u v => List.set_comm u v hij
  have e1 := rep s
  have l1 : j < (L.set i s).length := by rw [List.length_set]; exact hj
  have l2 : ∀ v, i < (L.set j v).length := fun v => by rw [List.length_set]; exact hi
  have e2 : (Cl.prod hp ((L.set i s).set j s) : Cl p (zs n)) = Cl.prod hp ((L.set i s).set j a) + (1 : Int) * Cl.prod hp ((L.set i s).set j b) := by
    have h9 := Cl.set_plus hp (L.set i s) l1 b la 1
    rw [← hs] at h9
    exact h9
  have e3 : ∀ v, (Cl.prod hp ((L.set i s).set j v) : Cl p (zs n)) = Cl.prod hp ((L.set i a).set j v) + (1 : Int) * Cl.prod hp ((L.set i b).set j v) := fun v => by
    rw [comm s v, hs, Cl.set_plus hp _ (l2 v) b la 1, ← comm a v, ← comm b v]
  rw [e2, e3 a, e3 b, rep a, rep b, Cl.zero_addz, Cl.one_sm, Cl.one_sm, Cl.one_sm, Cl.add_zero] at e1
  have e4 : (L.set i a).set j b = L := by rw [ha, set_self L hi, hb, set_self L hj]
  have e5 : swapL L i j = (L.set i b).set j a := by unfold swapL; rw [← ha, ← hb]
  rw [e4] at e1
  rw [e5]
  have h := Cl.add_back (Cl.prod hp ((L.set i b).set j a) : Cl p (zs n)) (Cl.prod hp L) 1
  rw [Cl.one_sm, e1, Cl.zero_addz] at h
  exact h.symm
theorem Cl.prod_clear (hp : 0 < p) (hP : isP p = true) {m : List (List Int)} (hT : Tab p n m) {d k : Nat} (hd : d < m.length) : ∀ j, j ≤ m.length → (Cl.prod hp (clearTo p m d k j) : Cl p (zs n)) = Cl.prod hp m := by
  intro j
  induction j with
  | zero => intro _; rw [clearTo_zero]
  | succ j ih =>
    intro hj
    by_cases h : j = d
    · subst h; rw [clearTo_skip]; exact ih (by omega)
    · rw [clearTo_succ p m d k j (by omega) h]
      have e1 : m.getD j [] = (clearTo p m d k j).getD j [] := by rw [clearTo_getD (by omega), if_neg (by omega)]
      have e2 : m.getD d [] = (clearTo p m d k j).getD d [] := by rw [clearTo_getD hd, if_neg (by omega)]
      rw [e1, e2, Cl.prod_plus hp hP (clearTo_tab hp hT d k j) (by rw [clearTo_len]; omega) (by rw [clearTo_len]; exact hd) h]
      exact ih (by omega)
/-- The sign of an exchange. -/
def swSg (i j : Nat) : Int := if i = j then 1 else -1
theorem swapL_self (L : List (List Int)) {i : Nat} (hi : i < L.length) : swapL L i i = L := by
  unfold swapL; rw [set_self L hi, set_self L hi]
theorem Cl.prod_swap' (hp : 0 < p) (hP : isP p = true) {L : List (List Int)} (hT : Tab p n L) {i j : Nat} (hi : i < L.length) (hj : j < L.length) :
    (Cl.prod hp (swapL L i j) : Cl p (zs n)) = swSg i j * Cl.prod hp L := by
  unfold swSg
  by_cases h : i = j
  · subst h; rw [if_pos rfl, swapL_self L hi, Cl.one_sm]
  · rw [if_neg h, Cl.prod_swap hp hP hT hi hj h]
theorem Cl.prod_scaled (hp : 0 < p) (hP : isP p = true) {m : List (List Int)} (hT : Tab p n m) {k d : Nat} (hd : d < m.length) (hv : pivOf m k d < m.length) :
    (Cl.prod hp (scaledAt p m k d) : Cl p (zs n)) = (invF p (ent m (pivOf m k d) k) * swSg d (pivOf m k d)) * Cl.prod hp m := by
  unfold scaledAt
  have hl : d < (swapL m d (pivOf m k d)).length := by rw [swapL_len]; exact hd
  rw [Cl.set_scale hp _ hl ((hT.row hv).1.trans (zs_len n).symm)]
  have e : (swapL m d (pivOf m k d)).set d (m.getD (pivOf m k d) []) = swapL m d (pivOf m k d) := by
    have : (swapL m d (pivOf m k d)).getD d [] = m.getD (pivOf m k d) [] := by
      unfold swapL
      rw [getD_set]
      by_cases h : pivOf m k d = d
      · rw [if_pos ⟨h, by rw [List.length_set]; exact hv⟩, h]
      · rw [if_neg fun e => h e.1, getD_set, if_pos ⟨rfl, hd⟩]
    rw [← this, set_self _ hl]
  rw [e, Cl.prod_swap' hp hP hT hd hv, Cl.sm_sm]
theorem unit_inv (hP : isP p = true) {a : Int} (h0 : 0 ≤ a ∧ a < p) (ha : a ≠ 0) : invF p a % p ≠ 0 := fun h => by
  have h1 := inv_one hP h0 ha
  have h3 := (isP_ge hP).1
  rw [Int.mul_emod, h, Int.mul_zero, Int.zero_emod, Int.emod_eq_of_lt (by omega) (by omega)] at h1
  exact absurd h1 (by decide)
theorem swSg_ne (hP : isP p = true) (i j : Nat) : swSg i j % p ≠ 0 := by
  have h3 := isP_ge hP
  unfold swSg
  split
  · rw [Int.emod_eq_of_lt (by omega) (by omega)]; decide
  · intro h
    have h1 : (-1 : Int) % p = p - 1 := by
      rw [← Int.add_emod_right (a := -1), show (-1 : Int) + p = p - 1 by omega, Int.emod_eq_of_lt (by omega) (by omega)]
    omega
theorem Cl.prod_step (hp : 0 < p) (hP : isP p = true) {s : List (List Int) × Nat} {k : Nat} (hT : Tab p n s.1) (hd : s.2 ≤ s.1.length) :
    ∃ c : Int, c % p ≠ 0 ∧ (Cl.prod hp (stepB p k s).1 : Cl p (zs n)) = c * Cl.prod hp s.1 := by
  have h3 := isP_ge hP
  unfold stepB
  by_cases h : pivOf s.1 k s.2 = s.1.length
  · rw [if_pos h]
    exact ⟨1, by rw [Int.emod_eq_of_lt (by omega) (by omega)]; decide, (Cl.one_sm _).symm⟩
  · rw [if_neg h]
    obtain ⟨hb1, hb2⟩ := pivOf_bound s.1 k s.2 hd
    have hx : ent s.1 (pivOf s.1 k s.2) k ≠ 0 := piv_at s.1 k _ _ (by unfold pivOf at h hb2; omega)
    have hl : (scaledAt p s.1 k s.2).length = s.1.length := scaledAt_len _ _ _ _
    have hst := scaledAt_tab (p := p) (k := k) hp hT (show s.2 < s.1.length by omega) (by omega)
    refine ⟨invF p (ent s.1 (pivOf s.1 k s.2) k) * swSg s.2 (pivOf s.1 k s.2), ?_, ?_⟩
    rotate_left
    · show (Cl.prod hp (clearTo p (scaledAt p s.1 k s.2) s.2 k s.1.length) : Cl p (zs n)) = _
      rw [Cl.prod_clear hp hP hst (by rw [hl]; omega) _ (by rw [hl]; exact Nat.le_refl _), Cl.prod_scaled hp hP hT (by omega) (by omega)]
    · exact mul_ne hP (unit_inv hP (hT.ent hp _ _) hx) (swSg_ne hP _ _)
theorem Cl.prod_basisTo (hp : 0 < p) (hP : isP p = true) {m : List (List Int)} (hT : Tab p n m) : ∀ k, ∃ c : Int, c % p ≠ 0 ∧ (Cl.prod hp (basisTo p m k).1 : Cl p (zs n)) = c * Cl.prod hp m := by
  have h3 := isP_ge hP
  intro k
  induction k with
  | zero => exact ⟨1, by rw [Int.emod_eq_of_lt (by omega) (by omega)]; decide, (Cl.one_sm _).symm⟩
  | succ k ih =>
    obtain ⟨c, hc, e⟩ := ih
    obtain ⟨t1, t2, t3⟩ := basisTo_inv hp m hT k
    obtain ⟨d, hd, e2⟩ := Cl.prod_step hp hP (s := basisTo p m k) (k := k) t1 (by omega)
    refine ⟨d * c, mul_ne hP hd hc, ?_⟩
    show (Cl.prod hp (stepB p k (basisTo p m k)).1 : Cl p (zs n)) = _
    rw [e2, e, Cl.sm_sm]
theorem Cl.sm_inv {sq : List Int} (hP : isP p = true) {c : Int} (hc : c % p ≠ 0) {x y : Cl p sq} (h : x = c * y) : y = invF p (c % p) * x := by
  rw [h, Cl.sm_sm]
  have h1 := inv_mod hP hc
  rw [Int.mul_comm] at h1
  rw [Cl.sm_cg (k := invF p (c % p) * c) (j := 1) (by rw [h1, Int.emod_eq_of_lt] <;> have := isP_ge hP <;> omega), Cl.one_sm]
theorem Cl.vec_none (hp : 0 < p) {sq : List Int} {v : List Int} (h : ∀ q, q < sq.length → v.getD q 0 % p = 0) : (Cl.vec hp v : Cl p sq) = Cl.zero hp := Cl.same fun m hm => by
  rw [Cl.vec_co hp v hm, Cl.zero_co hp hm]
  refine (sumTo_mod p (g := fun _ => 0) fun i hi => ?_).trans (by rw [sumTo_zero fun _ _ => rfl]; rfl)
  split
  · rw [h i hi]; rfl
  · rfl
/-- The product of vectors is 0 or a multiple of that of their reduced basis, which has as many. -/
theorem Cl.prod_basis (hp : 0 < p) (hP : isP p = true) {m : List (List Int)} (hT : Tab p n m) :
    (Cl.prod hp m : Cl p (zs n)) = Cl.zero hp ∨ ((basisL p m).length = m.length ∧ ∃ c : Int, c % p ≠ 0 ∧ (Cl.prod hp m : Cl p (zs n)) = c * Cl.prod hp (basisL p m)) := by
  have h3 := isP_ge hP
  by_cases h0 : 0 < m.length
  · have hl := row0_len hT h0
    obtain ⟨c, hc, e⟩ := Cl.prod_basisTo hp hP hT n
    obtain ⟨t1, t2, t3⟩ := basisTo_inv hp m hT n
    obtain ⟨ec, hE⟩ := basisTo_ech hP m hT n (Nat.le_refl _)
    have ei := Cl.sm_inv hP hc e
    have hinv : invF p (c % p) % p ≠ 0 := unit_inv hP ⟨Int.emod_nonneg _ (by omega), Int.emod_lt_of_pos _ (by omega)⟩ hc
    by_cases hfull : (basisTo p m n).2 = m.length
    · refine Or.inr ⟨?_, _, hinv, ?_⟩
      · rw [(basisL_len hp m hT).1, hl, hfull]
      · have e4 : basisL p m = (basisTo p m n).1 := by unfold basisL; rw [hl, hfull, ← t2, List.take_length]
        rw [e4]; exact ei
    · refine Or.inl ?_
      have hd : (basisTo p m n).2 < (basisTo p m n).1.length := by omega
      rw [ei, Cl.prod_split hp _ hd, Cl.vec_none hp (v := (basisTo p m n).1.getD (basisTo p m n).2 []) (fun q hq => ?_), Cl.zero_mul, Cl.mul_zero, Cl.sm_zero]
      rw [zs_len] at hq
      have := hE.rest _ (Nat.le_refl _) hd q hq
      unfold ent at this
      rw [this]; rfl
  · obtain rfl : m = [] := List.eq_nil_of_length_eq_zero (by omega)
    rw [basisL_nil]
    exact Or.inr ⟨rfl, 1, by rw [Int.emod_eq_of_lt (by omega) (by omega)]; decide, (Cl.one_sm _).symm⟩
end
end Go.Proofs.YtdbibmilicjllaaGreat
namespace Go.Proofs.YtdbibmilicjllaaGreat
/-- Rows none of which is a sum of multiples of others. -/
def Ind (p : Int) (n : Nat) (L : List (List Int)) : Prop := ∀ c : Nat → Int, (∀ q, q < n → (sumTo L.length fun i => c i * ent L i q) % p = 0) → ∀ i, i < L.length → c i % p = 0
section
variable {p : Int} {n : Nat}
theorem Red.ind {B : List (List Int)} (hR : Red n B) : Ind p n B := fun c hc i hi => by
  have h := hc _ (hR.lt i hi)
  rwa [sumTo_one (f := fun j => c j * ent B j (ld B i)) i hi (fun j hj hne => by rw [hR.zero i j hi hj hne, Int.mul_zero]), hR.one i hi, Int.mul_one] at h
/-- Leads that fill the first places. -/
theorem Red.fills {B : List (List Int)} (hR : Red n B) {N : Nat} (h : ∀ f, f < N → isLd B f = true) : N ≤ B.length := by
  have key : ∀ f, f < N → ∃ i, i < B.length ∧ ld B i = f ∧ f ≤ i := by
    intro f
    induction f with
    | zero => intro h0; obtain ⟨i, hi, e⟩ := isLd_iff.1 (h 0 h0); exact ⟨i, hi, e, Nat.zero_le _⟩
    | succ f ih =>
      intro hf
      obtain ⟨i, hi, e, hle⟩ := ih (by omega)
      obtain ⟨j, hj, e2⟩ := isLd_iff.1 (h (f + 1) hf)
      refine ⟨j, hj, e2, ?_⟩
      rcases Nat.lt_trichotomy i j with hl | hl | hl
      · omega
      · subst hl; omega
      · have := hR.mono j i hl hi; omega
  rcases Nat.eq_zero_or_pos N with rfl | hN
  · exact Nat.zero_le _
  · obtain ⟨i, hi, -, hle⟩ := key (N - 1) (by omega)
    omega
/-- Independent vectors that others make are no more than these. -/
theorem Ind.le (hP : isP p = true) {L M : List (List Int)} (hI : Ind p n L) (hS : InSp p n L M) : L.length ≤ M.length := by
  have hp : 2 ≤ p := by have := isP_ge hP; omega
  refine Classical.byContradiction fun hlt => ?_
  have hch : ∀ i, ∃ a : Nat → Int, i < L.length → ∀ q, q < n → ent L i q % p = (sumTo M.length fun j => a j * ent M j q) % p := fun i => by
    by_cases hi : i < L.length
    · obtain ⟨a, ha⟩ := hS i hi; exact ⟨a, fun _ => ha⟩
    · exact ⟨fun _ => 0, fun h => absurd h hi⟩
  obtain ⟨a, ha⟩ := Classical.axiomOfChoice hch
  obtain ⟨A, hA⟩ : ∃ A : List (List Int), A = tab M.length fun j => tab L.length fun i => a i j % p := ⟨_, rfl⟩
  have hAl : A.length = M.length := by rw [hA, tab_len]
  have hAT : Tab p L.length A := by
    rw [hA]
    exact Tab.tab fun j _ => ⟨tab_len _ _, NumsL.tab fun i _ => ⟨Int.emod_nonneg _ (by omega), Int.emod_lt_of_pos _ (by omega)⟩⟩
  have hAe : ∀ j i, j < M.length → i < L.length → ent A j i = a i j % p := fun j i hj hi => by
    unfold ent; rw [hA, tab_getD hj, tab_getD hi]
  have hR := basisL_red hP A hAT
  have hRl := (basisL_len (p := p) (by omega) A hAT).2
  have hf : ∃ f, f < L.length ∧ isLd (basisL p A) f = false := Classical.byContradiction fun hno => by
    have := hR.fills (N := L.length) fun f hf => by
      cases e : isLd (basisL p A) f
      · exact absurd ⟨f, hf, e⟩ hno
      · rfl
    omega
  obtain ⟨f, hf, hfl⟩ := hf
  have ho := (freeRow_orth (p := p) hR hf hfl).of_in (basisL_in hP A hAT).2
  obtain ⟨c, hc⟩ : ∃ c : Nat → Int, c = fun q => (freeRow p (basisL p A) L.length f).getD q 0 := ⟨_, rfl⟩
  have h0 := hI c (fun q hq => by
    have e1 : (sumTo L.length fun i => c i * ent L i q) % p = (sumTo L.length fun i => c i * sumTo M.length fun j => a i j * ent M j q) % p := sumTo_mod p fun i hi => cg_mul rfl (ha i hi q hq)
    rw [e1, sumTo_congr (g := fun i => sumTo M.length fun j => c i * (a i j * ent M j q)) fun i _ => (sumTo_mul _ _ _).symm, sumTo_comm]
    refine (sumTo_mod p (g := fun _ => 0) fun j hj => ?_).trans (by rw [sumTo_zero fun _ _ => rfl]; rfl)
    have h1 := ho j (by omega)
    have e2 : (sumTo L.length fun i => c i * (a i j * ent M j q)) = ent M j q * sumTo L.length fun i => a i j * c i := by
      rw [← sumTo_mul]; exact sumTo_congr fun i _ => by rw [← Int.mul_assoc, Int.mul_comm (ent M j q), Int.mul_comm (c i)]
    rw [e2]
    have e3 : (sumTo L.length fun i => a i j * c i) % p = (sumTo L.length fun q => ent A j q * (freeRow p (basisL p A) L.length f).getD q 0) % p := sumTo_mod p fun i hi => by
      rw [hAe j i hj hi, hc]; exact cg_mul (cg_self _ _).symm rfl
    exact (cg_mul rfl (e3.trans h1)).trans (by rw [Int.mul_zero])) f hf
  rw [hc] at h0
  simp only [freeRow_own (p := p) (B := basisL p A) hf] at h0
  rw [Int.emod_eq_of_lt (by omega) (by omega)] at h0
  exact absurd h0 (by decide)
theorem ent_trans {m : List (List Int)} (hT : Tab p n m) (h0 : 0 < m.length) {i q : Nat} (hi : i < m.length) (hq : q < n) : ent (transL m) q i = ent m i q := by
  unfold ent
  rw [transL_row hT h0 hq, tab_getD hi]; rfl
end
end Go.Proofs.YtdbibmilicjllaaGreat
namespace Go.Proofs.YtdbibmilicjllaaGreat
open Go.RowKit
theorem unitM_ent {n i k : Nat} (hi : i < n) (hk : k < n) : ent (unitM n) i k = if i = k then 1 else 0 := by
  have hl : i < (unitM n).length := by rw [unitM_len]; exact hi
  unfold ent
  rw [getD_of_lt [] hl, unitM_get n i hl]
  unfold unitRow
  rw [getD_set, List.length_replicate]
  by_cases h : i = k
  · rw [if_pos ⟨h, hi⟩, if_pos h]
  · rw [if_neg (fun hh => h hh.1), if_neg h, getD_of_lt 0 (by simpa using hk)]; simp
theorem unitM_ld {n i : Nat} (hi : i < n) : ld (unitM n) i = i := by
  have hl : i < (unitM n).length := by rw [unitM_len]; exact hi
  have hr : ((unitM n).getD i []).length = n := by rw [getD_of_lt [] hl, unitM_get n i hl, unitRow_len]
  unfold ld
  refine leadL_eq _ _ (fun j hj => ?_) (.inr ⟨by rw [hr]; exact hi, ?_⟩)
  · have := unitM_ent (n := n) hi (show j < n by omega)
    unfold ent at this
    rw [this, if_neg (by omega)]
  · have := unitM_ent (n := n) hi hi
    unfold ent at this
    rw [this, if_pos rfl]; decide
theorem unitM_red (n : Nat) : Red n (unitM n) := by
  have hl := unitM_len n
  refine ⟨fun i hi => by rw [unitM_ld (by omega)]; omega, fun i hi => by rw [unitM_ld (by omega), unitM_ent (by omega) (by omega), if_pos rfl], fun i r hi hr hri => by rw [unitM_ld (by omega), unitM_ent (by omega) (by omega), if_neg hri], fun i j hij hj => by rw [unitM_ld (by omega), unitM_ld (by omega)]; exact hij⟩
theorem l02Unit_any (n : Nat) (w : World) (hn : n ≤ 65536) :
    Calls Tryz.prog 180 #[.int .i64 n] w fun e w' => ∃ A c, e = .returned (.slice A n c) ∧ MkII w w' A n c (unitM n) := by
  have hmk := make_i (P := Tryz.prog) 24 2 Tryz.underlying24 info_i n (by omega)
  have hM0 : MkII w (w.alloc (.cells #[] 24)) (some ⟨w.heap.size, 0, none⟩) 0 0 [] := MkII.empty (Below.refl _ _)
  go_enter Tryz.func180, Tryz.ntmps180
  go_wp2
  go_loopw [3, 4] (fun out i wr => ∃ (k : Nat) (A : Option Addr) (c : Nat), k ≤ n ∧ i = .int .i64 k ∧ out = .slice A k c ∧ MkII w wr A k c ((unitM n).take k)) (fun _ i _ => n - (intOf i).toNat)
  case atStart => exact ⟨0, _, _, by omega, rfl, rfl, by simpa using hM0⟩
  case round =>
    obtain ⟨k, A, c, hk, rfl, rfl, hM⟩ := hrel
    clear hM0
    by_cases hlt : k < n
    · have hm1 := Mk.made (E := 2) (n := n) (z := .int .i64 0) (Below.refl wr.heap.size wr) (by simp only [maxLen]; omega)
      rw [ints_replicate] at hm1
      obtain ⟨u1, hc1⟩ := hm1.2.cellI hlt
      have hf1 := hm1.2.frozen_ k
      have hm2 := (hm1.set k (.int .i64 1)).1
      rw [ints_set, World.setCell_alloc_at _ _ _ _ _ rfl] at hm2
      have HM := Lib.hid hM
      have HM2 := Lib.hid hm2
      clear hM hm1 hm2
      go_wp2_with (at_builtin; refine wpList_appRow w wr _ rfl _ _ rfl A k c _ _ n n _ HM.out HM2.out (by omega) rfl ?_ ?_; (go_simp); intro A' c' w' hM')
      go_roundw
      case rel => exact ⟨k + 1, A', c', by omega, by go_num, rfl, by rw [unitM_take n k hlt]; exact hM'⟩
      case measure => simp [intOf]; omega
    · go_wp2
      go_ret
      obtain rfl : k = n := by omega
      rw [List.take_of_length_le (by rw [unitM_len]; omega)] at hM
      exact ⟨_, _, rfl, hM⟩
end Go.Proofs.YtdbibmilicjllaaGreat
