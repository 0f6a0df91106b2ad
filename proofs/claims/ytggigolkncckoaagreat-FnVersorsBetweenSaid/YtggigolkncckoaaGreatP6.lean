/-
  LawFnVersorsBetween: part 6 of the texts that the proof needs. No condition.
-/
import Derived.Test.YtggigolkncckoaaGreatP5
namespace Go.Proofs.YtggigolkncckoaaGreat
open Go.RowKit
/-- The geometric product of vectors. -/
def versL (P : Int) (sq : List Int) (n : Nat) (L : List (List Int)) : List Int := L.foldl (fun o v => mulL P sq o (vecTo n v n)) (bladeL n 0)
theorem versL_snoc (P : Int) (sq : List Int) (n : Nat) (L : List (List Int)) (v : List Int) : versL P sq n (L ++ [v]) = mulL P sq (versL P sq n L) (vecTo n v n) := by unfold versL; rw [List.foldl_append]; rfl
theorem mulL_len' (P : Int) (sq xs ys : List Int) : (mulL P sq xs ys).length = xs.length := by unfold mulL; rw [prodL_len]
theorem versL_len (P : Int) (sq : List Int) (n : Nat) : ∀ (k : Nat) (L : List (List Int)), L.length = k → (versL P sq n L).length = pw n := by
  intro k
  induction k with
  | zero => intro L h; rw [List.eq_nil_of_length_eq_zero h]; exact bladeL_len n 0
  | succ k ih =>
    intro L h
    have hne : L ≠ [] := fun e => by rw [e] at h; simp at h
    rw [← List.dropLast_concat_getLast hne, versL_snoc, mulL_len']
    exact ih _ (by rw [List.length_dropLast, h]; rfl)
theorem versL_nums {P : Int} (hp : 2 ≤ P) (sq : List Int) (n : Nat) (L : List (List Int)) : NumsL P (versL P sq n L) := by
  by_cases h : L = []
  · rw [h]; exact bladeL_nums hp n 0
  · rw [← List.dropLast_concat_getLast h, versL_snoc]
    exact mulL_nums (by omega) _ _ _
set_option maxHeartbeats 3200000 in
set_option maxRecDepth 8000 in
theorem versor_any (P : Int) (A : Option Addr) (n c : Nat) (sq : List Int) (B : Option Addr) (m d : Nat) (L : List (List Int)) (w : World) (HP : isP P = true) (hn : n ≤ 6) (h0 : 0 < n) (hm : m ≤ 65536) (ha : Rd w A n (ints sq)) (hs : NumsL P sq) (hb : RdII w B m L) (hL : Tab P n L) :
    Calls Tryz.prog 155 #[.agg #[.int .i64 P, .slice A n c], .slice B m d] w fun e w' => ∃ A' c', e = .returned (.slice A' (pw n) c') ∧ MkI w w' A' (pw n) c' (versL P sq n L) := by
  obtain ⟨hp3, hp2⟩ := isP_ge HP
  have hp : 2 ≤ P := by omega
  have HML := Lib.hid hb.len
  have HTL := Lib.hid hL
  have hB0 : Below w.heap.size w (w.alloc (.cells #[.int .i64 P, .slice A n c] 26)) := (Below.refl _ _).alloc (Nat.le_refl _) _
  have k0 : Blk (w.alloc (.cells #[.int .i64 P, .slice A n c] 26)) w.heap.size 26 #[.int .i64 P, .slice A n c] := Blk.new _ _ _
  obtain ⟨q0, q1⟩ := k0.two
  clear hL
  go_enter Tryz.func155, Tryz.ntmps155
  go_wp2_with fail
  refine (one_any P A n c _ (by omega)).mono ?_
  rintro e w1 ⟨G, c1, rfl, hM1⟩
  have k1 := k0.below hM1.b k0.lt
  have hM := hM1.after hB0
  clear hM1 hB0 k0 q0 q1
  go_wp2
  go_loopw [5, 7, 12] (fun out _ i wr => ∃ (k : Nat) (G : Option Addr) (cg : Nat), k ≤ m ∧ i = .int .i64 k ∧ out = .slice G (pw n) cg ∧ MkI w wr G (pw n) cg (versL P sq n (L.take k)) ∧ Blk wr w.heap.size 26 #[.int .i64 P, .slice A n c]) (fun _ _ i _ => m - (intOf i).toNat)
  case atStart => exact ⟨0, _, _, by omega, rfl, rfl, by simpa [versL] using hM, k1⟩
  case round =>
    obtain ⟨k, G, cg, hk, rfl, rfl, hM2, k2⟩ := hrel
    clear hM k1
    obtain ⟨q0, q1⟩ := k2.two
    by_cases hlt : k < m
    · obtain ⟨g, o, rfl, hxk, A1, c1', hcx, hr, hcc⟩ := (hb.below hM2.b).at_ hlt
      have HRN := Lib.hid (HTL.out L[k] (List.getElem_mem hxk))
      have hl1 := HRN.out.1
      rw [hl1] at hcx hr
      have HR := Lib.hid hr
      have HT : Hid (versL P sq n (L.take (k + 1)) = mulL P sq (versL P sq n (L.take k)) (vecTo n L[k] n)) := Lib.hid (by rw [List.take_succ_eq_append_getElem hxk, versL_snoc])
      have HN := Lib.hid (versL_nums hp sq n (L.take k))
      have HLN := Lib.hid (versL_len P sq n _ (L.take k) rfl)
      have HM2 := Lib.hid hM2
      have HA := Lib.hid (ha.below hM2.b)
      have HSQ := Lib.hid hs
      obtain ⟨v, hv⟩ : ∃ v, v = L[k] := ⟨_, rfl⟩
      rw [← hv] at HRN HR HT
      obtain ⟨O, hO⟩ : ∃ O, O = versL P sq n (L.take k) := ⟨_, rfl⟩
      rw [← hO] at HT HN HM2 HLN
      have HTT := Lib.hid (timesL_two P sq n O (vecTo n v n) HLN.out HN.out)
      clear hl1 hr hcc hv hO hM2 hxk
      go_wp2
      refine wp_obs 7 [[], [], [], [], [2, 3], [1, 2, 3, 4], [0, 1, 2, 3, 4, 5], [0, 1, 2, 3, 4, 5, 6]] [VIs (.agg #[.int .i64 P, .slice A n c]), VIs (.slice G (pw n) cg), VIs (.agg #[.int .i64 P, .slice A n c]), VIs (.slice A1 n c1'), VSl wr (pw n) (vecTo n v n), VRow 2 [O, vecTo n v n], VSl wr (pw n) (mulL P sq O (vecTo n v n))] (fun w' => Blk w' w.heap.size 26 #[.int .i64 P, .slice A n c] ∧ Below wr.heap.size wr w') (by kernel_rfl) (by kernel_rfl) (fun _ _ h hb => ⟨h.1.below hb h.1.lt, h.2.trans (hb.mono h.2.size)⟩) (⟨k2.drew, (Below.refl _ _).drew⟩) (fun x => ?_)
      refine obs_step (Eq.trans (by simp only [List.getElem?_toArray, List.getElem?_cons_zero]; exact rfl) rfl) rfl (fun w' hS hV K hK => ?_) ?_
      · obtain ⟨q0, q1⟩ := hS.1.two
        go_simp
        exact hK.out _ _ _ rfl rfl rfl (Below.refl _ _)
      simp only [List.setIfInBounds_toArray, List.set_cons_zero, List.set_cons_succ]
      refine obs_step (Eq.trans (by simp only [List.getElem?_toArray, List.getElem?_cons_succ, List.getElem?_cons_zero]; exact rfl) rfl) rfl (fun w' hS hV K hK => ?_) ?_
      · obtain ⟨q0, q1⟩ := hS.1.two
        go_simp
        exact hK.out _ _ _ rfl rfl rfl (Below.refl _ _)
      simp only [List.setIfInBounds_toArray, List.set_cons_zero, List.set_cons_succ]
      refine obs_step (Eq.trans (by simp only [List.getElem?_toArray, List.getElem?_cons_succ, List.getElem?_cons_zero]; exact rfl) rfl) rfl (fun w' hS hV K hK => ?_) ?_
      · obtain ⟨q0, q1⟩ := hS.1.two
        go_simp
        exact hK.out _ _ _ rfl rfl rfl (Below.refl _ _)
      simp only [List.setIfInBounds_toArray, List.set_cons_zero, List.set_cons_succ]
      refine obs_step (Eq.trans (by simp only [List.getElem?_toArray, List.getElem?_cons_succ, List.getElem?_cons_zero]; exact rfl) rfl) rfl (fun w' hS hV K hK => ?_) ?_
      · obtain ⟨q0, q1⟩ := hS.1.two
        go_simp
        exact hK.out _ _ _ rfl rfl rfl (Below.refl _ _)
      simp only [List.setIfInBounds_toArray, List.set_cons_zero, List.set_cons_succ]
      refine obs_step (Eq.trans (by simp only [List.getElem?_toArray, List.getElem?_cons_succ, List.getElem?_cons_zero]; exact rfl) rfl) rfl (fun w' hS hV K hK => ?_) ?_
      · have e2 : x 2 = (.agg #[.int .i64 P, .slice A n c]) := hV 2 (by decide)
        have e3 : x 3 = (.slice A1 n c1') := hV 3 (by decide)
        obtain ⟨q0, q1⟩ := hS.1.two
        go_simp
        refine (vector_any P A n c _ _ v _ (by omega) (HR.out.below hS.2)).mono ?_
        rintro e v1 ⟨A2, c2, rfl, hM⟩
        exact hK.out _ _ _ rfl rfl ⟨_, _, rfl, hM.after hS.2⟩ hM.b
      simp only [List.setIfInBounds_toArray, List.set_cons_zero, List.set_cons_succ]
      refine obs_step (Eq.trans (by simp only [List.getElem?_toArray, List.getElem?_cons_succ, List.getElem?_cons_zero]; exact rfl) rfl) rfl (fun w' hS hV K hK => ?_) ?_
      · have e1 : x 1 = (.slice G (pw n) cg) := hV 1 (by decide)
        have e2 : x 2 = (.agg #[.int .i64 P, .slice A n c]) := hV 2 (by decide)
        have e3 : x 3 = (.slice A1 n c1') := hV 3 (by decide)
        obtain ⟨A4, c4, e4, h4⟩ := hV 4 (by decide)
        obtain ⟨q0, q1⟩ := hS.1.two
        go_simp
        exact hK.out _ _ _ rfl rfl ⟨_, _, rfl, rdII_two (Blk.new _ _ _) (Rd.below (HM2.out.below hS.2).rd ((Below.refl _ _).alloc (Nat.le_refl _) _)) (Rd.below h4.rd ((Below.refl _ _).alloc (Nat.le_refl _) _)) HM2.out.2.cap h4.2.cap⟩ ((Below.refl _ _).alloc (Nat.le_refl _) _)
      simp only [List.setIfInBounds_toArray, List.set_cons_zero, List.set_cons_succ]
      refine obs_step (Eq.trans (by simp only [List.getElem?_toArray, List.getElem?_cons_succ, List.getElem?_cons_zero]; exact rfl) rfl) rfl (fun w' hS hV K hK => ?_) ?_
      · have e0 : x 0 = (.agg #[.int .i64 P, .slice A n c]) := hV 0 (by decide)
        have e1 : x 1 = (.slice G (pw n) cg) := hV 1 (by decide)
        have e2 : x 2 = (.agg #[.int .i64 P, .slice A n c]) := hV 2 (by decide)
        have e3 : x 3 = (.slice A1 n c1') := hV 3 (by decide)
        obtain ⟨A4, c4, e4, h4⟩ := hV 4 (by decide)
        obtain ⟨A5, c5, e5, h5⟩ := hV 5 (by decide)
        obtain ⟨q0, q1⟩ := hS.1.two
        go_simp
        refine (times_any P A n c sq _ 2 _ [O, vecTo n v n] _ hp hp2 hn (by omega) (HA.out.below hS.2) HSQ.out h5 (all_two ⟨HN.out, HLN.out⟩ ⟨vecTo_nums (by omega) n _ HRN.out.2 n, vecTo_len _ _ _⟩)).mono ?_
        rw [HTT.out]
        rintro e v1 ⟨A2, c2, rfl, hM⟩
        exact hK.out _ _ _ rfl rfl ⟨_, _, rfl, hM.after hS.2⟩ hM.b
      simp only [List.setIfInBounds_toArray, List.set_cons_zero, List.set_cons_succ]
      refine fun w' hS hV => ?_
      have e0 : x 0 = (.agg #[.int .i64 P, .slice A n c]) := hV 0 (by decide)
      have e1 : x 1 = (.slice G (pw n) cg) := hV 1 (by decide)
      have e2 : x 2 = (.agg #[.int .i64 P, .slice A n c]) := hV 2 (by decide)
      have e3 : x 3 = (.slice A1 n c1') := hV 3 (by decide)
      obtain ⟨A4, c4, e4, h4⟩ := hV 4 (by decide)
      obtain ⟨A5, c5, e5, h5⟩ := hV 5 (by decide)
      obtain ⟨A6, c6, e6, h6⟩ := hV 6 (by decide)
      simp only [e0, e1, e2, e3, e4, e5, e6]
      clear e0 e1 e2 e3 e4 e5 e6
      refine any_one (j := 7) (by kernel_rfl) (Eq.trans (by simp only [List.getElem?_toArray, List.getElem?_cons_succ, List.getElem?_cons_zero]; exact rfl) rfl) (fun K hK => ?_)
      go_simp
      refine hK.out _ _ (wpAny_done (by kernel_rfl) ?_ _)
      have k3 := hS.1
      have HMN := Lib.hid (h6.after HM2.out.b)
      clear hS h6 h4 h5 HTT
      go_wp2
      go_roundw
      case rel => exact ⟨k + 1, A6, c6, by omega, by go_num, rfl, by rw [HT.out]; exact HMN.out, k3⟩
      case measure => simp [intOf]; omega
    · obtain rfl : k = m := by omega
      rw [List.take_of_length_le (by rw [HML.out]; exact Nat.le_refl _)] at hM2
      go_wp2
      go_ret
      exact ⟨_, _, rfl, hM2⟩
set_option maxHeartbeats 3200000 in
set_option maxRecDepth 8000 in
theorem l07Versor_any (P : Int) (A : Option Addr) (n c : Nat) (sq : List Int) (B : Option Addr) (m d : Nat) (L : List (List Int)) (w : World) (HP : isP P = true) (hn : n ≤ 6) (h0 : 0 < n) (hm : m ≤ 65536) (ha : Rd w A n (ints sq)) (hs : NumsL P sq) (hb : RdII w B m L) (hL : Tab P n L) :
    Calls Tryz.prog 160 #[.agg #[.int .i64 P, .slice A n c], .slice B m d] w fun e w' => ∃ A' c', e = .returned (.slice A' (pw n) c') ∧ MkI w w' A' (pw n) c' (versL P sq n L) := by
  obtain ⟨hp3, hp2⟩ := isP_ge HP
  have hp : 2 ≤ P := by omega
  have HML := Lib.hid hb.len
  have HTL := Lib.hid hL
  have hB0 : Below w.heap.size w (w.alloc (.cells #[.int .i64 P, .slice A n c] 26)) := (Below.refl _ _).alloc (Nat.le_refl _) _
  have k0 : Blk (w.alloc (.cells #[.int .i64 P, .slice A n c] 26)) w.heap.size 26 #[.int .i64 P, .slice A n c] := Blk.new _ _ _
  obtain ⟨q0, q1⟩ := k0.two
  clear hL
  go_enter Tryz.func160, Tryz.ntmps160
  go_wp2_with fail
  refine (l04One_any P A n c _ (by omega)).mono ?_
  rintro e w1 ⟨G, c1, rfl, hM1⟩
  have k1 := k0.below hM1.b k0.lt
  have hM := hM1.after hB0
  clear hM1 hB0 k0 q0 q1
  go_wp2
  go_loopw [5, 6] (fun out i wr => ∃ (k : Nat) (G : Option Addr) (cg : Nat), k ≤ m ∧ i = .int .i64 k ∧ out = .slice G (pw n) cg ∧ MkI w wr G (pw n) cg (versL P sq n (L.take k)) ∧ Blk wr w.heap.size 26 #[.int .i64 P, .slice A n c]) (fun _ i _ => m - (intOf i).toNat)
  case atStart => exact ⟨0, _, _, by omega, rfl, rfl, by simpa [versL] using hM, k1⟩
  case round =>
    obtain ⟨k, G, cg, hk, rfl, rfl, hM2, k2⟩ := hrel
    clear hM k1
    obtain ⟨q0, q1⟩ := k2.two
    by_cases hlt : k < m
    · obtain ⟨g, o, rfl, hxk, A1, c1', hcx, hr, hcc⟩ := (hb.below hM2.b).at_ hlt
      have HRN := Lib.hid (HTL.out L[k] (List.getElem_mem hxk))
      have hl1 := HRN.out.1
      rw [hl1] at hcx hr
      have HR := Lib.hid hr
      have HT : Hid (versL P sq n (L.take (k + 1)) = mulL P sq (versL P sq n (L.take k)) (vecTo n L[k] n)) := Lib.hid (by rw [List.take_succ_eq_append_getElem hxk, versL_snoc])
      have HN := Lib.hid (versL_nums hp sq n (L.take k))
      have HLN := Lib.hid (versL_len P sq n _ (L.take k) rfl)
      have HM2 := Lib.hid hM2
      have HA := Lib.hid (ha.below hM2.b)
      have HSQ := Lib.hid hs
      obtain ⟨v, hv⟩ : ∃ v, v = L[k] := ⟨_, rfl⟩
      rw [← hv] at HRN HR HT
      obtain ⟨O, hO⟩ : ∃ O, O = versL P sq n (L.take k) := ⟨_, rfl⟩
      rw [← hO] at HT HN HM2 HLN
      have HTT := Lib.hid (timesL_two P sq n O (vecTo n v n) HLN.out HN.out)
      clear hl1 hr hcc hv hO hM2 hxk
      go_wp2
      refine wp_obs 9 [[], [], [], [], [], [3, 4], [3, 4, 5], [2, 3, 4, 5, 6], [0, 1, 2, 3, 4, 5, 6, 7], [0, 1, 2, 3, 4, 5, 6, 7, 8]] [VIs (.agg #[.int .i64 P, .slice A n c]), VIs (.slice G (pw n) cg), VIs (.agg #[.int .i64 P, .slice A n c]), VIs (.slice (some ⟨g, o, none⟩) m d), VIs (.int .i64 (k)), VIs (.pointer (some ⟨g, o + k, none⟩)), VIs (.slice A1 n c1'), VSl wr (pw n) (vecTo n v n), VSl wr (pw n) (mulL P sq O (vecTo n v n))] (fun w' => w'.cell? ⟨g, o + k, none⟩ = some (.slice A1 n c1') ∧ Blk w' w.heap.size 26 #[.int .i64 P, .slice A n c] ∧ Below wr.heap.size wr w') (by kernel_rfl) (by kernel_rfl) (fun _ _ h hb => ⟨(hb.cell (World.block_lt_of_cell? _ _ h.1)).trans h.1, h.2.1.below hb h.2.1.lt, h.2.2.trans (hb.mono h.2.2.size)⟩) (⟨hcx, k2.drew, (Below.refl _ _).drew⟩) (fun x => ?_)
      refine obs_step (Eq.trans (by simp only [List.getElem?_toArray, List.getElem?_cons_zero]; exact rfl) rfl) rfl (fun w' hS hV K hK => ?_) ?_
      · have q2 := hS.1; obtain ⟨q0, q1⟩ := hS.2.1.two
        go_simp
        exact hK.out _ _ _ rfl rfl rfl (Below.refl _ _)
      simp only [List.setIfInBounds_toArray, List.set_cons_zero, List.set_cons_succ]
      refine obs_step (Eq.trans (by simp only [List.getElem?_toArray, List.getElem?_cons_succ, List.getElem?_cons_zero]; exact rfl) rfl) rfl (fun w' hS hV K hK => ?_) ?_
      · have q2 := hS.1; obtain ⟨q0, q1⟩ := hS.2.1.two
        go_simp
        exact hK.out _ _ _ rfl rfl rfl (Below.refl _ _)
      simp only [List.setIfInBounds_toArray, List.set_cons_zero, List.set_cons_succ]
      refine obs_step (Eq.trans (by simp only [List.getElem?_toArray, List.getElem?_cons_succ, List.getElem?_cons_zero]; exact rfl) rfl) rfl (fun w' hS hV K hK => ?_) ?_
      · have q2 := hS.1; obtain ⟨q0, q1⟩ := hS.2.1.two
        go_simp
        exact hK.out _ _ _ rfl rfl rfl (Below.refl _ _)
      simp only [List.setIfInBounds_toArray, List.set_cons_zero, List.set_cons_succ]
      refine obs_step (Eq.trans (by simp only [List.getElem?_toArray, List.getElem?_cons_succ, List.getElem?_cons_zero]; exact rfl) rfl) rfl (fun w' hS hV K hK => ?_) ?_
      · have q2 := hS.1; obtain ⟨q0, q1⟩ := hS.2.1.two
        go_simp
        exact hK.out _ _ _ rfl rfl rfl (Below.refl _ _)
      simp only [List.setIfInBounds_toArray, List.set_cons_zero, List.set_cons_succ]
      refine obs_step (Eq.trans (by simp only [List.getElem?_toArray, List.getElem?_cons_succ, List.getElem?_cons_zero]; exact rfl) rfl) rfl (fun w' hS hV K hK => ?_) ?_
      · have q2 := hS.1; obtain ⟨q0, q1⟩ := hS.2.1.two
        go_simp
        exact hK.out _ _ _ rfl rfl rfl (Below.refl _ _)
      simp only [List.setIfInBounds_toArray, List.set_cons_zero, List.set_cons_succ]
      refine obs_step (Eq.trans (by simp only [List.getElem?_toArray, List.getElem?_cons_succ, List.getElem?_cons_zero]; exact rfl) rfl) rfl (fun w' hS hV K hK => ?_) ?_
      · have e3 : x 3 = (.slice (some ⟨g, o, none⟩) m d) := hV 3 (by decide)
        have e4 : x 4 = (.int .i64 (k)) := hV 4 (by decide)
        have q2 := hS.1; obtain ⟨q0, q1⟩ := hS.2.1.two
        go_simp
        exact hK.out _ _ _ rfl rfl rfl (Below.refl _ _)
      simp only [List.setIfInBounds_toArray, List.set_cons_zero, List.set_cons_succ]
      refine obs_step (Eq.trans (by simp only [List.getElem?_toArray, List.getElem?_cons_succ, List.getElem?_cons_zero]; exact rfl) rfl) rfl (fun w' hS hV K hK => ?_) ?_
      · have e3 : x 3 = (.slice (some ⟨g, o, none⟩) m d) := hV 3 (by decide)
        have e4 : x 4 = (.int .i64 (k)) := hV 4 (by decide)
        have e5 : x 5 = (.pointer (some ⟨g, o + k, none⟩)) := hV 5 (by decide)
        have q2 := hS.1; obtain ⟨q0, q1⟩ := hS.2.1.two
        go_simp
        exact hK.out _ _ _ rfl rfl rfl (Below.refl _ _)
      simp only [List.setIfInBounds_toArray, List.set_cons_zero, List.set_cons_succ]
      refine obs_step (Eq.trans (by simp only [List.getElem?_toArray, List.getElem?_cons_succ, List.getElem?_cons_zero]; exact rfl) rfl) rfl (fun w' hS hV K hK => ?_) ?_
      · have e2 : x 2 = (.agg #[.int .i64 P, .slice A n c]) := hV 2 (by decide)
        have e3 : x 3 = (.slice (some ⟨g, o, none⟩) m d) := hV 3 (by decide)
        have e4 : x 4 = (.int .i64 (k)) := hV 4 (by decide)
        have e5 : x 5 = (.pointer (some ⟨g, o + k, none⟩)) := hV 5 (by decide)
        have e6 : x 6 = (.slice A1 n c1') := hV 6 (by decide)
        have q2 := hS.1; obtain ⟨q0, q1⟩ := hS.2.1.two
        go_simp
        refine (l04Vector_any P A n c _ _ v _ (by omega) (HR.out.below hS.2.2)).mono ?_
        rintro e v1 ⟨A2, c2, rfl, hM⟩
        exact hK.out _ _ _ rfl rfl ⟨_, _, rfl, hM.after hS.2.2⟩ hM.b
      simp only [List.setIfInBounds_toArray, List.set_cons_zero, List.set_cons_succ]
      refine obs_step (Eq.trans (by simp only [List.getElem?_toArray, List.getElem?_cons_succ, List.getElem?_cons_zero]; exact rfl) rfl) rfl (fun w' hS hV K hK => ?_) ?_
      · have e0 : x 0 = (.agg #[.int .i64 P, .slice A n c]) := hV 0 (by decide)
        have e1 : x 1 = (.slice G (pw n) cg) := hV 1 (by decide)
        have e2 : x 2 = (.agg #[.int .i64 P, .slice A n c]) := hV 2 (by decide)
        have e3 : x 3 = (.slice (some ⟨g, o, none⟩) m d) := hV 3 (by decide)
        have e4 : x 4 = (.int .i64 (k)) := hV 4 (by decide)
        have e5 : x 5 = (.pointer (some ⟨g, o + k, none⟩)) := hV 5 (by decide)
        have e6 : x 6 = (.slice A1 n c1') := hV 6 (by decide)
        obtain ⟨A7, c7, e7, h7⟩ := hV 7 (by decide)
        have q2 := hS.1; obtain ⟨q0, q1⟩ := hS.2.1.two
        go_simp
        refine (l04Times_any P A n c sq _ _ O _ _ (vecTo n v n) _ hp hp2 hn (HA.out.below hS.2.2) HSQ.out (HM2.out.below hS.2.2).rd HN.out h7.rd (vecTo_nums (by omega) n _ HRN.out.2 n)).mono ?_
        rw [show prodL P sq (fun _ _ => true) O (vecTo n v n) = mulL P sq O (vecTo n v n) from rfl]
        rintro e v1 ⟨A2, c2, rfl, hM⟩
        exact hK.out _ _ _ rfl rfl ⟨_, _, rfl, hM.after hS.2.2⟩ hM.b
      simp only [List.setIfInBounds_toArray, List.set_cons_zero, List.set_cons_succ]
      refine fun w' hS hV => ?_
      have e0 : x 0 = (.agg #[.int .i64 P, .slice A n c]) := hV 0 (by decide)
      have e1 : x 1 = (.slice G (pw n) cg) := hV 1 (by decide)
      have e2 : x 2 = (.agg #[.int .i64 P, .slice A n c]) := hV 2 (by decide)
      have e3 : x 3 = (.slice (some ⟨g, o, none⟩) m d) := hV 3 (by decide)
      have e4 : x 4 = (.int .i64 (k)) := hV 4 (by decide)
      have e5 : x 5 = (.pointer (some ⟨g, o + k, none⟩)) := hV 5 (by decide)
      have e6 : x 6 = (.slice A1 n c1') := hV 6 (by decide)
      obtain ⟨A7, c7, e7, h7⟩ := hV 7 (by decide)
      obtain ⟨A8, c8, e8, h8⟩ := hV 8 (by decide)
      simp only [e0, e1, e2, e3, e4, e5, e6, e7, e8]
      clear e0 e1 e2 e3 e4 e5 e6 e7 e8
      refine any_one (j := 9) (by kernel_rfl) (Eq.trans (by simp only [List.getElem?_toArray, List.getElem?_cons_succ, List.getElem?_cons_zero]; exact rfl) rfl) (fun K hK => ?_)
      go_simp
      refine hK.out _ _ (wpAny_done (by kernel_rfl) ?_ _)
      have k3 := hS.2.1
      have HMN := Lib.hid (h8.after HM2.out.b)
      clear hS h8 h7 HTT
      go_wp2
      go_roundw
      case rel => exact ⟨k + 1, A8, c8, by omega, by go_num, rfl, by rw [HT.out]; exact HMN.out, k3⟩
      case measure => simp [intOf]; omega
    · obtain rfl : k = m := by omega
      rw [List.take_of_length_le (by rw [HML.out]; exact Nat.le_refl _)] at hM2
      go_wp2
      go_ret
      exact ⟨_, _, rfl, hM2⟩
set_option maxHeartbeats 800000 in
theorem norm_any (P : Int) (A : Option Addr) (n c : Nat) (sq : List Int) (X : Option Addr) (cx : Nat) (v : List Int) (w : World) (hp : 2 ≤ P) (hp2 : P ≤ 13) (hn : n ≤ 6) (ha : Rd w A n (ints sq)) (hs : NumsL P sq) (hx : Rd w X n (ints v)) (hv : NumsL P v) :
    Calls Tryz.prog 151 #[.agg #[.int .i64 P, .slice A n c], .slice X n cx] w fun e w' => e = .returned (.int .i64 (pairL P sq v v)) ∧ Below w.heap.size w w' := by
  have hB0 : Below w.heap.size w (w.alloc (.cells #[.int .i64 P, .slice A n c] 26)) := (Below.refl _ _).alloc (Nat.le_refl _) _
  have k0 : Blk (w.alloc (.cells #[.int .i64 P, .slice A n c] 26)) w.heap.size 26 #[.int .i64 P, .slice A n c] := Blk.new _ _ _
  have hpr := pair_any P A n c sq X cx v X cx v (w.alloc (.cells #[.int .i64 P, .slice A n c] 26)) hp hp2 hn (ha.below hB0) hs (hx.below hB0) hv (hx.below hB0) hv
  obtain ⟨q0, q1⟩ := k0.two
  go_enter Tryz.func151, Tryz.ntmps151
  go_wp2_with fail
  refine hpr.mono ?_
  rintro e w2 ⟨rfl, hb⟩
  go_wp2
  go_ret
  exact ⟨rfl, hB0.trans (hb.mono hB0.size)⟩
theorem pairL_small {P : Int} (hp : 2 ≤ P) (sq v u : List Int) : 0 ≤ pairL P sq v u ∧ pairL P sq v u < P := by
  unfold pairL dotL
  exact ⟨Int.emod_nonneg _ (by omega), Int.emod_lt_of_pos _ (by omega)⟩
/-- The reflection in u of v, as the program computes it. -/
def rflL (P : Int) (sq u v : List Int) : List Int := plusL P v u (-2 * pairL P sq u v * invF P (pairL P sq u u))
theorem rflL_nums {P : Int} (hp : 0 < P) (sq u v : List Int) : NumsL P (rflL P sq u v) := plusL_nums hp _ _ _
theorem mul_two_small {P a b : Int} (h2 : P ≤ 13) (ha : 0 ≤ a ∧ a < P) (hb : 0 ≤ b ∧ b < P) : 0 ≤ a * b ∧ a * b ≤ 144 :=
  ⟨Int.mul_nonneg ha.1 hb.1, Int.le_trans (Int.mul_le_mul_of_nonneg_right (show a ≤ 12 by omega) hb.1) (by omega)⟩
theorem rflL_mod {P : Int} (sq u v : List Int) : plusL P v u ((-(2 * pairL P sq u v % P * invF P (pairL P sq u u) % P)) % P) = rflL P sq u v := by
  unfold rflL
  refine plusL_mod P v u ?_
  obtain ⟨a, ha⟩ : ∃ a, a = pairL P sq u v := ⟨_, rfl⟩
  obtain ⟨i, hi⟩ : ∃ i, i = invF P (pairL P sq u u) := ⟨_, rfl⟩
  rw [← ha, ← hi, Int.emod_emod_of_dvd _ (Int.dvd_refl P)]
  have h1 : (2 * a % P * i % P) % P = (2 * a * i) % P := by rw [Int.emod_emod_of_dvd _ (Int.dvd_refl P), Int.mul_emod, Int.emod_emod_of_dvd _ (Int.dvd_refl P), ← Int.mul_emod]
  have h2 := congrArg (fun z => (-1 * z) % P) h1
  have h3 : ∀ z : Int, (-1 * (z % P)) % P = (-z) % P := fun z => by rw [Int.mul_emod, Int.emod_emod_of_dvd _ (Int.dvd_refl P), ← Int.mul_emod, Int.neg_one_mul]
  have h4 : (-1 * (2 * a % P * i % P % P)) % P = (-1 * (2 * a * i % P)) % P := h2
  rw [h3, h3] at h4
  rw [h4, Int.neg_mul, Int.neg_mul]
set_option maxHeartbeats 3200000 in
set_option maxRecDepth 8000 in
theorem l07Reflect_any (P : Int) (A : Option Addr) (n c : Nat) (sq : List Int) (U : Option Addr) (cu : Nat) (u : List Int) (Y : Option Addr) (cy : Nat) (v : List Int) (w : World) (HP : isP P = true) (hn : n ≤ 6) (ha : Rd w A n (ints sq)) (hs : NumsL P sq) (hx : Rd w U n (ints u)) (hu : NumsL P u) (hy : Rd w Y n (ints v)) (hv : NumsL P v) (hne : ¬ pairL P sq u u = 0) :
    Calls Tryz.prog 149 #[.agg #[.int .i64 P, .slice A n c], .slice U n cu, .slice Y n cy] w fun e w' => ∃ A' c', e = .returned (.slice A' n c') ∧ MkI w w' A' n c' (rflL P sq u v) := by
  obtain ⟨hp3, hp2⟩ := isP_ge HP
  have hp : 2 ≤ P := by omega
  have ha1 := pairL_small hp sq u v
  have hb1 := pairL_small hp sq u u
  have hi1 := invF_small hp (pairL P sq u u)
  have HM1 := mul_two_small hp2 ha1 hi1
  have HSA := Lib.hid hs
  have HUA := Lib.hid hu
  have HVA := Lib.hid hv
  obtain ⟨R, hR⟩ : ∃ R, R = rflL P sq u v := ⟨_, rfl⟩
  have HR := Lib.hid hR
  have HPR := Lib.hid fun (w' : World) (h : Below w.heap.size w w') => l03Pair_any P A n c sq U cu u Y cy v w' hp hp2 hn (ha.below h) hs (hx.below h) hu (hy.below h) hv
  have HNR := Lib.hid fun (w' : World) (h : Below w.heap.size w w') => l03Pair_any P A n c sq U cu u U cu u w' hp hp2 hn (ha.below h) hs (hx.below h) hu (hx.below h) hu
  have HIN := Lib.hid fun (w' : World) => l01Inv_any P (pairL P sq u u) w' HP (by omega) (by omega)
  obtain ⟨f, hf⟩ : ∃ f, f = 2 * pairL P sq u v % P * invF P (pairL P sq u u) % P := ⟨_, rfl⟩
  have hf1 : 0 ≤ f ∧ f < P := by rw [hf]; exact ⟨Int.emod_nonneg _ (by omega), Int.emod_lt_of_pos _ (by omega)⟩
  have hk1 : 0 ≤ (-f) % P ∧ (-f) % P < P := ⟨Int.emod_nonneg _ (by omega), Int.emod_lt_of_pos _ (by omega)⟩
  have HPL := Lib.hid fun (w' : World) (h : Below w.heap.size w w') => l02Plus_any P Y n cy U n cu ((-f) % P) v u w' hp hp2 (by omega) (Nat.le_refl _) (hy.below h) hv (hx.below h) hu (by omega) (by omega)
  rw [show plusL P v u ((-f) % P) = R by rw [hf, hR]; exact rflL_mod sq u v] at HPL
  obtain ⟨a, hA⟩ : ∃ a, a = pairL P sq u v := ⟨_, rfl⟩
  obtain ⟨b, hB⟩ : ∃ b, b = pairL P sq u u := ⟨_, rfl⟩
  rw [← hB] at HNR HIN HM1 hi1 hb1 hne hf
  rw [← hA] at HPR HM1 ha1 hf
  obtain ⟨i, hi⟩ : ∃ i, i = invF P b := ⟨_, rfl⟩
  rw [← hi] at HIN HM1 hi1 hf
  have h2a : 0 ≤ 2 * a % P ∧ 2 * a % P < P := ⟨Int.emod_nonneg _ (by omega), Int.emod_lt_of_pos _ (by omega)⟩
  have h2i := mul_two_small hp2 h2a hi1
  have W1 := i64_fit (2 * a) (by omega) (by omega)
  have T1 := Int.tmod_eq_emod_of_nonneg (a := 2 * a) (b := P) (by omega)
  have W2 := i64_fit (2 * a % P * i) (by omega) (by omega)
  have T2 := Int.tmod_eq_emod_of_nonneg (a := 2 * a % P * i) (b := P) (by omega)
  have W3 := i64_fit (P - f) (by omega) (by omega)
  have T3 : (P - f).tmod P = (-f) % P := by rw [Int.tmod_eq_emod_of_nonneg (by omega), Int.sub_eq_add_neg, Int.add_emod, Int.emod_self, Int.zero_add, Int.emod_emod_of_dvd _ (Int.dvd_refl P)]
  have hP0 : ¬ P = 0 := by omega
  have HW := Lib.hid (And.intro W3 T3)
  have HF := Lib.hid hf
  have hB0 : Below w.heap.size w (w.alloc (.cells #[.int .i64 P, .slice A n c] 26)) := (Below.refl _ _).alloc (Nat.le_refl _) _
  have k0 : Blk (w.alloc (.cells #[.int .i64 P, .slice A n c] 26)) w.heap.size 26 #[.int .i64 P, .slice A n c] := Blk.new _ _ _
  obtain ⟨q0, q1⟩ := k0.two
  clear hA hB hi hR hs hu hv ha hx hy HP W3 T3 hf hk1 hf1
  go_enter Tryz.func149, Tryz.ntmps149
  go_wp2
  refine wp_obs 20 [[], [], [], [0, 1, 2], [0, 1, 2, 3], [], [5], [0, 1, 2, 3, 4, 5, 6], [], [8], [], [], [], [10, 11, 12], [8, 9, 10, 11, 12, 13], [0, 1, 2, 3, 4, 5, 6, 7, 8, 9, 10, 11, 12, 13, 14], [], [16], [0, 1, 2, 3, 4, 5, 6, 7, 8, 9, 10, 11, 12, 13, 14, 15, 16, 17], [0, 1, 2, 3, 4, 5, 6, 7, 8, 9, 10, 11, 12, 13, 14, 15, 16, 17, 18]] [VIs (.agg #[.int .i64 P, .slice A n c]), VIs (.slice U n cu), VIs (.slice Y n cy), VIs (.int .i64 (a)), VIs (.int .i64 (2 * a)), VIs (.pointer (some ⟨w.heap.size, 0, none⟩)), VIs (.int .i64 (P)), VIs (.int .i64 (2 * a % P)), VIs (.pointer (some ⟨w.heap.size, 0, none⟩)), VIs (.int .i64 (P)), VIs (.agg #[.int .i64 P, .slice A n c]), VIs (.slice U n cu), VIs (.slice U n cu), VIs (.int .i64 (b)), VIs (.int .i64 (i)), VIs (.int .i64 (2 * a % P * i)), VIs (.pointer (some ⟨w.heap.size, 0, none⟩)), VIs (.int .i64 (P)), VIs (.int .i64 (2 * a % P * i % P)), VIs (.int .i64 (2 * a % P * i % P))] (fun w' => Blk w' w.heap.size 26 #[.int .i64 P, .slice A n c] ∧ Below w.heap.size w w') (by kernel_rfl) (by kernel_rfl) (fun _ _ h hb => ⟨h.1.below hb h.1.lt, h.2.trans (hb.mono h.2.size)⟩) (⟨k0.drew, hB0.drew⟩) (fun x => ?_)
  refine obs_step (Eq.trans (by simp only [List.getElem?_toArray, List.getElem?_cons_zero]; exact rfl) rfl) rfl (fun w' hS hV K hK => ?_) ?_
  · obtain ⟨q0, q1⟩ := hS.1.two
    go_simp
    exact hK.out _ _ _ rfl rfl rfl (Below.refl _ _)
  simp only [List.setIfInBounds_toArray, List.set_cons_zero, List.set_cons_succ]
  refine obs_step (Eq.trans (by simp only [List.getElem?_toArray, List.getElem?_cons_succ, List.getElem?_cons_zero]; exact rfl) rfl) rfl (fun w' hS hV K hK => ?_) ?_
  · obtain ⟨q0, q1⟩ := hS.1.two
    go_simp
    exact hK.out _ _ _ rfl rfl rfl (Below.refl _ _)
  simp only [List.setIfInBounds_toArray, List.set_cons_zero, List.set_cons_succ]
  refine obs_step (Eq.trans (by simp only [List.getElem?_toArray, List.getElem?_cons_succ, List.getElem?_cons_zero]; exact rfl) rfl) rfl (fun w' hS hV K hK => ?_) ?_
  · obtain ⟨q0, q1⟩ := hS.1.two
    go_simp
    exact hK.out _ _ _ rfl rfl rfl (Below.refl _ _)
  simp only [List.setIfInBounds_toArray, List.set_cons_zero, List.set_cons_succ]
  refine obs_step (Eq.trans (by simp only [List.getElem?_toArray, List.getElem?_cons_succ, List.getElem?_cons_zero]; exact rfl) rfl) rfl (fun w' hS hV K hK => ?_) ?_
  · have e0 : x 0 = (.agg #[.int .i64 P, .slice A n c]) := hV 0 (by decide)
    have e1 : x 1 = (.slice U n cu) := hV 1 (by decide)
    have e2 : x 2 = (.slice Y n cy) := hV 2 (by decide)
    obtain ⟨q0, q1⟩ := hS.1.two
    go_simp
    refine (HPR.out _ hS.2).mono ?_
    rintro e v1 ⟨rfl, hb⟩
    exact hK.out _ _ _ rfl rfl rfl hb
  simp only [List.setIfInBounds_toArray, List.set_cons_zero, List.set_cons_succ]
  refine obs_step (Eq.trans (by simp only [List.getElem?_toArray, List.getElem?_cons_succ, List.getElem?_cons_zero]; exact rfl) rfl) rfl (fun w' hS hV K hK => ?_) ?_
  · have e0 : x 0 = (.agg #[.int .i64 P, .slice A n c]) := hV 0 (by decide)
    have e1 : x 1 = (.slice U n cu) := hV 1 (by decide)
    have e2 : x 2 = (.slice Y n cy) := hV 2 (by decide)
    have e3 : x 3 = (.int .i64 (a)) := hV 3 (by decide)
    obtain ⟨q0, q1⟩ := hS.1.two
    go_simp
    exact hK.out _ _ _ rfl rfl rfl (Below.refl _ _)
  simp only [List.setIfInBounds_toArray, List.set_cons_zero, List.set_cons_succ]
  refine obs_step (Eq.trans (by simp only [List.getElem?_toArray, List.getElem?_cons_succ, List.getElem?_cons_zero]; exact rfl) rfl) rfl (fun w' hS hV K hK => ?_) ?_
  · obtain ⟨q0, q1⟩ := hS.1.two
    go_simp
    exact hK.out _ _ _ rfl rfl rfl (Below.refl _ _)
  simp only [List.setIfInBounds_toArray, List.set_cons_zero, List.set_cons_succ]
  refine obs_step (Eq.trans (by simp only [List.getElem?_toArray, List.getElem?_cons_succ, List.getElem?_cons_zero]; exact rfl) rfl) rfl (fun w' hS hV K hK => ?_) ?_
  · have e5 : x 5 = (.pointer (some ⟨w.heap.size, 0, none⟩)) := hV 5 (by decide)
    obtain ⟨q0, q1⟩ := hS.1.two
    go_simp
    exact hK.out _ _ _ rfl rfl rfl (Below.refl _ _)
  simp only [List.setIfInBounds_toArray, List.set_cons_zero, List.set_cons_succ]
  refine obs_step (Eq.trans (by simp only [List.getElem?_toArray, List.getElem?_cons_succ, List.getElem?_cons_zero]; exact rfl) rfl) rfl (fun w' hS hV K hK => ?_) ?_
  · have e0 : x 0 = (.agg #[.int .i64 P, .slice A n c]) := hV 0 (by decide)
    have e1 : x 1 = (.slice U n cu) := hV 1 (by decide)
    have e2 : x 2 = (.slice Y n cy) := hV 2 (by decide)
    have e3 : x 3 = (.int .i64 (a)) := hV 3 (by decide)
    have e4 : x 4 = (.int .i64 (2 * a)) := hV 4 (by decide)
    have e5 : x 5 = (.pointer (some ⟨w.heap.size, 0, none⟩)) := hV 5 (by decide)
    have e6 : x 6 = (.int .i64 (P)) := hV 6 (by decide)
    obtain ⟨q0, q1⟩ := hS.1.two
    go_simp
    exact hK.out _ _ _ rfl rfl rfl (Below.refl _ _)
  simp only [List.setIfInBounds_toArray, List.set_cons_zero, List.set_cons_succ]
  refine obs_step (Eq.trans (by simp only [List.getElem?_toArray, List.getElem?_cons_succ, List.getElem?_cons_zero]; exact rfl) rfl) rfl (fun w' hS hV K hK => ?_) ?_
  · obtain ⟨q0, q1⟩ := hS.1.two
    go_simp
    exact hK.out _ _ _ rfl rfl rfl (Below.refl _ _)
  simp only [List.setIfInBounds_toArray, List.set_cons_zero, List.set_cons_succ]
  refine obs_step (Eq.trans (by simp only [List.getElem?_toArray, List.getElem?_cons_succ, List.getElem?_cons_zero]; exact rfl) rfl) rfl (fun w' hS hV K hK => ?_) ?_
  · have e8 : x 8 = (.pointer (some ⟨w.heap.size, 0, none⟩)) := hV 8 (by decide)
    obtain ⟨q0, q1⟩ := hS.1.two
    go_simp
    exact hK.out _ _ _ rfl rfl rfl (Below.refl _ _)
  simp only [List.setIfInBounds_toArray, List.set_cons_zero, List.set_cons_succ]
  refine obs_step (Eq.trans (by simp only [List.getElem?_toArray, List.getElem?_cons_succ, List.getElem?_cons_zero]; exact rfl) rfl) rfl (fun w' hS hV K hK => ?_) ?_
  · obtain ⟨q0, q1⟩ := hS.1.two
    go_simp
    exact hK.out _ _ _ rfl rfl rfl (Below.refl _ _)
  simp only [List.setIfInBounds_toArray, List.set_cons_zero, List.set_cons_succ]
  refine obs_step (Eq.trans (by simp only [List.getElem?_toArray, List.getElem?_cons_succ, List.getElem?_cons_zero]; exact rfl) rfl) rfl (fun w' hS hV K hK => ?_) ?_
  · obtain ⟨q0, q1⟩ := hS.1.two
    go_simp
    exact hK.out _ _ _ rfl rfl rfl (Below.refl _ _)
  simp only [List.setIfInBounds_toArray, List.set_cons_zero, List.set_cons_succ]
  refine obs_step (Eq.trans (by simp only [List.getElem?_toArray, List.getElem?_cons_succ, List.getElem?_cons_zero]; exact rfl) rfl) rfl (fun w' hS hV K hK => ?_) ?_
  · obtain ⟨q0, q1⟩ := hS.1.two
    go_simp
    exact hK.out _ _ _ rfl rfl rfl (Below.refl _ _)
  simp only [List.setIfInBounds_toArray, List.set_cons_zero, List.set_cons_succ]
  refine obs_step (Eq.trans (by simp only [List.getElem?_toArray, List.getElem?_cons_succ, List.getElem?_cons_zero]; exact rfl) rfl) rfl (fun w' hS hV K hK => ?_) ?_
  · have e10 : x 10 = (.agg #[.int .i64 P, .slice A n c]) := hV 10 (by decide)
    have e11 : x 11 = (.slice U n cu) := hV 11 (by decide)
    have e12 : x 12 = (.slice U n cu) := hV 12 (by decide)
    obtain ⟨q0, q1⟩ := hS.1.two
    go_simp
    refine (HNR.out _ hS.2).mono ?_
    rintro e v1 ⟨rfl, hb⟩
    exact hK.out _ _ _ rfl rfl rfl hb
  simp only [List.setIfInBounds_toArray, List.set_cons_zero, List.set_cons_succ]
  refine obs_step (Eq.trans (by simp only [List.getElem?_toArray, List.getElem?_cons_succ, List.getElem?_cons_zero]; exact rfl) rfl) rfl (fun w' hS hV K hK => ?_) ?_
  · have e8 : x 8 = (.pointer (some ⟨w.heap.size, 0, none⟩)) := hV 8 (by decide)
    have e9 : x 9 = (.int .i64 (P)) := hV 9 (by decide)
    have e10 : x 10 = (.agg #[.int .i64 P, .slice A n c]) := hV 10 (by decide)
    have e11 : x 11 = (.slice U n cu) := hV 11 (by decide)
    have e12 : x 12 = (.slice U n cu) := hV 12 (by decide)
    have e13 : x 13 = (.int .i64 (b)) := hV 13 (by decide)
    obtain ⟨q0, q1⟩ := hS.1.two
    go_simp
    refine (HIN.out _).mono ?_
    rintro e v1 ⟨rfl, rfl⟩
    exact hK.out _ _ _ rfl rfl rfl (Below.refl _ _)
  simp only [List.setIfInBounds_toArray, List.set_cons_zero, List.set_cons_succ]
  refine obs_step (Eq.trans (by simp only [List.getElem?_toArray, List.getElem?_cons_succ, List.getElem?_cons_zero]; exact rfl) rfl) rfl (fun w' hS hV K hK => ?_) ?_
  · have e0 : x 0 = (.agg #[.int .i64 P, .slice A n c]) := hV 0 (by decide)
    have e1 : x 1 = (.slice U n cu) := hV 1 (by decide)
    have e2 : x 2 = (.slice Y n cy) := hV 2 (by decide)
    have e3 : x 3 = (.int .i64 (a)) := hV 3 (by decide)
    have e4 : x 4 = (.int .i64 (2 * a)) := hV 4 (by decide)
    have e5 : x 5 = (.pointer (some ⟨w.heap.size, 0, none⟩)) := hV 5 (by decide)
    have e6 : x 6 = (.int .i64 (P)) := hV 6 (by decide)
    have e7 : x 7 = (.int .i64 (2 * a % P)) := hV 7 (by decide)
    have e8 : x 8 = (.pointer (some ⟨w.heap.size, 0, none⟩)) := hV 8 (by decide)
    have e9 : x 9 = (.int .i64 (P)) := hV 9 (by decide)
    have e10 : x 10 = (.agg #[.int .i64 P, .slice A n c]) := hV 10 (by decide)
    have e11 : x 11 = (.slice U n cu) := hV 11 (by decide)
    have e12 : x 12 = (.slice U n cu) := hV 12 (by decide)
    have e13 : x 13 = (.int .i64 (b)) := hV 13 (by decide)
    have e14 : x 14 = (.int .i64 (i)) := hV 14 (by decide)
    obtain ⟨q0, q1⟩ := hS.1.two
    go_simp
    exact hK.out _ _ _ rfl rfl rfl (Below.refl _ _)
  simp only [List.setIfInBounds_toArray, List.set_cons_zero, List.set_cons_succ]
  refine obs_step (Eq.trans (by simp only [List.getElem?_toArray, List.getElem?_cons_succ, List.getElem?_cons_zero]; exact rfl) rfl) rfl (fun w' hS hV K hK => ?_) ?_
  · obtain ⟨q0, q1⟩ := hS.1.two
    go_simp
    exact hK.out _ _ _ rfl rfl rfl (Below.refl _ _)
  simp only [List.setIfInBounds_toArray, List.set_cons_zero, List.set_cons_succ]
  refine obs_step (Eq.trans (by simp only [List.getElem?_toArray, List.getElem?_cons_succ, List.getElem?_cons_zero]; exact rfl) rfl) rfl (fun w' hS hV K hK => ?_) ?_
  · have e16 : x 16 = (.pointer (some ⟨w.heap.size, 0, none⟩)) := hV 16 (by decide)
    obtain ⟨q0, q1⟩ := hS.1.two
    go_simp
    exact hK.out _ _ _ rfl rfl rfl (Below.refl _ _)
  simp only [List.setIfInBounds_toArray, List.set_cons_zero, List.set_cons_succ]
  refine obs_step (Eq.trans (by simp only [List.getElem?_toArray, List.getElem?_cons_succ, List.getElem?_cons_zero]; exact rfl) rfl) rfl (fun w' hS hV K hK => ?_) ?_
  · have e0 : x 0 = (.agg #[.int .i64 P, .slice A n c]) := hV 0 (by decide)
    have e1 : x 1 = (.slice U n cu) := hV 1 (by decide)
    have e2 : x 2 = (.slice Y n cy) := hV 2 (by decide)
    have e3 : x 3 = (.int .i64 (a)) := hV 3 (by decide)
    have e4 : x 4 = (.int .i64 (2 * a)) := hV 4 (by decide)
    have e5 : x 5 = (.pointer (some ⟨w.heap.size, 0, none⟩)) := hV 5 (by decide)
    have e6 : x 6 = (.int .i64 (P)) := hV 6 (by decide)
    have e7 : x 7 = (.int .i64 (2 * a % P)) := hV 7 (by decide)
    have e8 : x 8 = (.pointer (some ⟨w.heap.size, 0, none⟩)) := hV 8 (by decide)
    have e9 : x 9 = (.int .i64 (P)) := hV 9 (by decide)
    have e10 : x 10 = (.agg #[.int .i64 P, .slice A n c]) := hV 10 (by decide)
    have e11 : x 11 = (.slice U n cu) := hV 11 (by decide)
    have e12 : x 12 = (.slice U n cu) := hV 12 (by decide)
    have e13 : x 13 = (.int .i64 (b)) := hV 13 (by decide)
    have e14 : x 14 = (.int .i64 (i)) := hV 14 (by decide)
    have e15 : x 15 = (.int .i64 (2 * a % P * i)) := hV 15 (by decide)
    have e16 : x 16 = (.pointer (some ⟨w.heap.size, 0, none⟩)) := hV 16 (by decide)
    have e17 : x 17 = (.int .i64 (P)) := hV 17 (by decide)
    obtain ⟨q0, q1⟩ := hS.1.two
    go_simp
    exact hK.out _ _ _ rfl rfl rfl (Below.refl _ _)
  simp only [List.setIfInBounds_toArray, List.set_cons_zero, List.set_cons_succ]
  refine obs_step (Eq.trans (by simp only [List.getElem?_toArray, List.getElem?_cons_succ, List.getElem?_cons_zero]; exact rfl) rfl) rfl (fun w' hS hV K hK => ?_) ?_
  · have e0 : x 0 = (.agg #[.int .i64 P, .slice A n c]) := hV 0 (by decide)
    have e1 : x 1 = (.slice U n cu) := hV 1 (by decide)
    have e2 : x 2 = (.slice Y n cy) := hV 2 (by decide)
    have e3 : x 3 = (.int .i64 (a)) := hV 3 (by decide)
    have e4 : x 4 = (.int .i64 (2 * a)) := hV 4 (by decide)
    have e5 : x 5 = (.pointer (some ⟨w.heap.size, 0, none⟩)) := hV 5 (by decide)
    have e6 : x 6 = (.int .i64 (P)) := hV 6 (by decide)
    have e7 : x 7 = (.int .i64 (2 * a % P)) := hV 7 (by decide)
    have e8 : x 8 = (.pointer (some ⟨w.heap.size, 0, none⟩)) := hV 8 (by decide)
    have e9 : x 9 = (.int .i64 (P)) := hV 9 (by decide)
    have e10 : x 10 = (.agg #[.int .i64 P, .slice A n c]) := hV 10 (by decide)
    have e11 : x 11 = (.slice U n cu) := hV 11 (by decide)
    have e12 : x 12 = (.slice U n cu) := hV 12 (by decide)
    have e13 : x 13 = (.int .i64 (b)) := hV 13 (by decide)
    have e14 : x 14 = (.int .i64 (i)) := hV 14 (by decide)
    have e15 : x 15 = (.int .i64 (2 * a % P * i)) := hV 15 (by decide)
    have e16 : x 16 = (.pointer (some ⟨w.heap.size, 0, none⟩)) := hV 16 (by decide)
    have e17 : x 17 = (.int .i64 (P)) := hV 17 (by decide)
    have e18 : x 18 = (.int .i64 (2 * a % P * i % P)) := hV 18 (by decide)
    obtain ⟨q0, q1⟩ := hS.1.two
    go_simp
    exact hK.out _ _ _ rfl rfl rfl (Below.refl _ _)
  simp only [List.setIfInBounds_toArray, List.set_cons_zero, List.set_cons_succ]
  refine fun w' hS hV => ?_
  have e0 : x 0 = (.agg #[.int .i64 P, .slice A n c]) := hV 0 (by decide)
  have e1 : x 1 = (.slice U n cu) := hV 1 (by decide)
  have e2 : x 2 = (.slice Y n cy) := hV 2 (by decide)
  have e3 : x 3 = (.int .i64 (a)) := hV 3 (by decide)
  have e4 : x 4 = (.int .i64 (2 * a)) := hV 4 (by decide)
  have e5 : x 5 = (.pointer (some ⟨w.heap.size, 0, none⟩)) := hV 5 (by decide)
  have e6 : x 6 = (.int .i64 (P)) := hV 6 (by decide)
  have e7 : x 7 = (.int .i64 (2 * a % P)) := hV 7 (by decide)
  have e8 : x 8 = (.pointer (some ⟨w.heap.size, 0, none⟩)) := hV 8 (by decide)
  have e9 : x 9 = (.int .i64 (P)) := hV 9 (by decide)
  have e10 : x 10 = (.agg #[.int .i64 P, .slice A n c]) := hV 10 (by decide)
  have e11 : x 11 = (.slice U n cu) := hV 11 (by decide)
  have e12 : x 12 = (.slice U n cu) := hV 12 (by decide)
  have e13 : x 13 = (.int .i64 (b)) := hV 13 (by decide)
  have e14 : x 14 = (.int .i64 (i)) := hV 14 (by decide)
  have e15 : x 15 = (.int .i64 (2 * a % P * i)) := hV 15 (by decide)
  have e16 : x 16 = (.pointer (some ⟨w.heap.size, 0, none⟩)) := hV 16 (by decide)
  have e17 : x 17 = (.int .i64 (P)) := hV 17 (by decide)
  have e18 : x 18 = (.int .i64 (2 * a % P * i % P)) := hV 18 (by decide)
  have e19 : x 19 = (.int .i64 (2 * a % P * i % P)) := hV 19 (by decide)
  simp only [e0, e1, e2, e3, e4, e5, e6, e7, e8, e9, e10, e11, e12, e13, e14, e15, e16, e17, e18, e19]
  clear e0 e1 e2 e3 e4 e5 e6 e7 e8 e9 e10 e11 e12 e13 e14 e15 e16 e17 e18 e19
  refine wpAny_done (by kernel_rfl) ?_ _
  have k1 := hS.1
  have HB1 := Lib.hid hS.2
  rw [← HF.out]
  obtain ⟨w1, rfl⟩ : ∃ W, W = w' := ⟨_, rfl⟩
  obtain ⟨W3, T3⟩ := HW.out
  clear hS q0 q1 W1 T1 W2 T2 k0 hB0
  obtain ⟨q0, q1⟩ := k1.two
  go_wp2
  refine wp_obs 13 [[], [0], [], [], [], [4], [], [4, 5, 6], [], [8], [4, 5, 6, 7, 8, 9], [0, 1, 2, 3, 4, 5, 6, 7, 8, 9, 10], [0, 1, 2, 3, 4, 5, 6, 7, 8, 9, 10, 11]] [VIs (.pointer (some ⟨w.heap.size, 0, none⟩)), VIs (.int .i64 (P)), VIs (.slice Y n cy), VIs (.slice U n cu), VIs (.pointer (some ⟨w.heap.size, 0, none⟩)), VIs (.int .i64 (P)), VIs (.int .i64 (f)), VIs (.int .i64 (P - f)), VIs (.pointer (some ⟨w.heap.size, 0, none⟩)), VIs (.int .i64 (P)), VIs (.int .i64 ((-f) % P)), VSl w n R, VSl w n R] (fun w' => Blk w' w.heap.size 26 #[.int .i64 P, .slice A n c] ∧ Below w1.heap.size w1 w') (by kernel_rfl) (by kernel_rfl) (fun _ _ h hb => ⟨h.1.below hb h.1.lt, h.2.trans (hb.mono h.2.size)⟩) (⟨k1.drew, (Below.refl _ _).drew⟩) (fun x => ?_)
  refine obs_step (Eq.trans (by simp only [List.getElem?_toArray, List.getElem?_cons_zero]; exact rfl) rfl) rfl (fun w' hS hV K hK => ?_) ?_
  · obtain ⟨q0, q1⟩ := hS.1.two
    go_simp
    exact hK.out _ _ _ rfl rfl rfl (Below.refl _ _)
  simp only [List.setIfInBounds_toArray, List.set_cons_zero, List.set_cons_succ]
  refine obs_step (Eq.trans (by simp only [List.getElem?_toArray, List.getElem?_cons_succ, List.getElem?_cons_zero]; exact rfl) rfl) rfl (fun w' hS hV K hK => ?_) ?_
  · have e0 : x 0 = (.pointer (some ⟨w.heap.size, 0, none⟩)) := hV 0 (by decide)
    obtain ⟨q0, q1⟩ := hS.1.two
    go_simp
    exact hK.out _ _ _ rfl rfl rfl (Below.refl _ _)
  simp only [List.setIfInBounds_toArray, List.set_cons_zero, List.set_cons_succ]
  refine obs_step (Eq.trans (by simp only [List.getElem?_toArray, List.getElem?_cons_succ, List.getElem?_cons_zero]; exact rfl) rfl) rfl (fun w' hS hV K hK => ?_) ?_
  · obtain ⟨q0, q1⟩ := hS.1.two
    go_simp
    exact hK.out _ _ _ rfl rfl rfl (Below.refl _ _)
  simp only [List.setIfInBounds_toArray, List.set_cons_zero, List.set_cons_succ]
  refine obs_step (Eq.trans (by simp only [List.getElem?_toArray, List.getElem?_cons_succ, List.getElem?_cons_zero]; exact rfl) rfl) rfl (fun w' hS hV K hK => ?_) ?_
  · obtain ⟨q0, q1⟩ := hS.1.two
    go_simp
    exact hK.out _ _ _ rfl rfl rfl (Below.refl _ _)
  simp only [List.setIfInBounds_toArray, List.set_cons_zero, List.set_cons_succ]
  refine obs_step (Eq.trans (by simp only [List.getElem?_toArray, List.getElem?_cons_succ, List.getElem?_cons_zero]; exact rfl) rfl) rfl (fun w' hS hV K hK => ?_) ?_
  · obtain ⟨q0, q1⟩ := hS.1.two
    go_simp
    exact hK.out _ _ _ rfl rfl rfl (Below.refl _ _)
  simp only [List.setIfInBounds_toArray, List.set_cons_zero, List.set_cons_succ]
  refine obs_step (Eq.trans (by simp only [List.getElem?_toArray, List.getElem?_cons_succ, List.getElem?_cons_zero]; exact rfl) rfl) rfl (fun w' hS hV K hK => ?_) ?_
  · have e4 : x 4 = (.pointer (some ⟨w.heap.size, 0, none⟩)) := hV 4 (by decide)
    obtain ⟨q0, q1⟩ := hS.1.two
    go_simp
    exact hK.out _ _ _ rfl rfl rfl (Below.refl _ _)
  simp only [List.setIfInBounds_toArray, List.set_cons_zero, List.set_cons_succ]
  refine obs_step (Eq.trans (by simp only [List.getElem?_toArray, List.getElem?_cons_succ, List.getElem?_cons_zero]; exact rfl) rfl) rfl (fun w' hS hV K hK => ?_) ?_
  · obtain ⟨q0, q1⟩ := hS.1.two
    go_simp
    exact hK.out _ _ _ rfl rfl rfl (Below.refl _ _)
  simp only [List.setIfInBounds_toArray, List.set_cons_zero, List.set_cons_succ]
  refine obs_step (Eq.trans (by simp only [List.getElem?_toArray, List.getElem?_cons_succ, List.getElem?_cons_zero]; exact rfl) rfl) rfl (fun w' hS hV K hK => ?_) ?_
  · have e4 : x 4 = (.pointer (some ⟨w.heap.size, 0, none⟩)) := hV 4 (by decide)
    have e5 : x 5 = (.int .i64 (P)) := hV 5 (by decide)
    have e6 : x 6 = (.int .i64 (f)) := hV 6 (by decide)
    obtain ⟨q0, q1⟩ := hS.1.two
    go_simp
    exact hK.out _ _ _ rfl rfl rfl (Below.refl _ _)
  simp only [List.setIfInBounds_toArray, List.set_cons_zero, List.set_cons_succ]
  refine obs_step (Eq.trans (by simp only [List.getElem?_toArray, List.getElem?_cons_succ, List.getElem?_cons_zero]; exact rfl) rfl) rfl (fun w' hS hV K hK => ?_) ?_
  · obtain ⟨q0, q1⟩ := hS.1.two
    go_simp
    exact hK.out _ _ _ rfl rfl rfl (Below.refl _ _)
  simp only [List.setIfInBounds_toArray, List.set_cons_zero, List.set_cons_succ]
  refine obs_step (Eq.trans (by simp only [List.getElem?_toArray, List.getElem?_cons_succ, List.getElem?_cons_zero]; exact rfl) rfl) rfl (fun w' hS hV K hK => ?_) ?_
  · have e8 : x 8 = (.pointer (some ⟨w.heap.size, 0, none⟩)) := hV 8 (by decide)
    obtain ⟨q0, q1⟩ := hS.1.two
    go_simp
    exact hK.out _ _ _ rfl rfl rfl (Below.refl _ _)
  simp only [List.setIfInBounds_toArray, List.set_cons_zero, List.set_cons_succ]
  refine obs_step (Eq.trans (by simp only [List.getElem?_toArray, List.getElem?_cons_succ, List.getElem?_cons_zero]; exact rfl) rfl) rfl (fun w' hS hV K hK => ?_) ?_
  · have e4 : x 4 = (.pointer (some ⟨w.heap.size, 0, none⟩)) := hV 4 (by decide)
    have e5 : x 5 = (.int .i64 (P)) := hV 5 (by decide)
    have e6 : x 6 = (.int .i64 (f)) := hV 6 (by decide)
    have e7 : x 7 = (.int .i64 (P - f)) := hV 7 (by decide)
    have e8 : x 8 = (.pointer (some ⟨w.heap.size, 0, none⟩)) := hV 8 (by decide)
    have e9 : x 9 = (.int .i64 (P)) := hV 9 (by decide)
    obtain ⟨q0, q1⟩ := hS.1.two
    go_simp
    exact hK.out _ _ _ rfl rfl rfl (Below.refl _ _)
  simp only [List.setIfInBounds_toArray, List.set_cons_zero, List.set_cons_succ]
  refine obs_step (Eq.trans (by simp only [List.getElem?_toArray, List.getElem?_cons_succ, List.getElem?_cons_zero]; exact rfl) rfl) rfl (fun w' hS hV K hK => ?_) ?_
  · have e0 : x 0 = (.pointer (some ⟨w.heap.size, 0, none⟩)) := hV 0 (by decide)
    have e1 : x 1 = (.int .i64 (P)) := hV 1 (by decide)
    have e2 : x 2 = (.slice Y n cy) := hV 2 (by decide)
    have e3 : x 3 = (.slice U n cu) := hV 3 (by decide)
    have e4 : x 4 = (.pointer (some ⟨w.heap.size, 0, none⟩)) := hV 4 (by decide)
    have e5 : x 5 = (.int .i64 (P)) := hV 5 (by decide)
    have e6 : x 6 = (.int .i64 (f)) := hV 6 (by decide)
    have e7 : x 7 = (.int .i64 (P - f)) := hV 7 (by decide)
    have e8 : x 8 = (.pointer (some ⟨w.heap.size, 0, none⟩)) := hV 8 (by decide)
    have e9 : x 9 = (.int .i64 (P)) := hV 9 (by decide)
    have e10 : x 10 = (.int .i64 ((-f) % P)) := hV 10 (by decide)
    obtain ⟨q0, q1⟩ := hS.1.two
    go_simp
    refine (HPL.out _ (HB1.out.trans (hS.2.mono HB1.out.size))).mono ?_
    rintro e v1 ⟨A2, c2, rfl, hM⟩
    exact hK.out _ _ _ rfl rfl ⟨_, _, rfl, hM.after (HB1.out.trans (hS.2.mono HB1.out.size))⟩ hM.b
  simp only [List.setIfInBounds_toArray, List.set_cons_zero, List.set_cons_succ]
  refine obs_step (Eq.trans (by simp only [List.getElem?_toArray, List.getElem?_cons_succ, List.getElem?_cons_zero]; exact rfl) rfl) rfl (fun w' hS hV K hK => ?_) ?_
  · have e0 : x 0 = (.pointer (some ⟨w.heap.size, 0, none⟩)) := hV 0 (by decide)
    have e1 : x 1 = (.int .i64 (P)) := hV 1 (by decide)
    have e2 : x 2 = (.slice Y n cy) := hV 2 (by decide)
    have e3 : x 3 = (.slice U n cu) := hV 3 (by decide)
    have e4 : x 4 = (.pointer (some ⟨w.heap.size, 0, none⟩)) := hV 4 (by decide)
    have e5 : x 5 = (.int .i64 (P)) := hV 5 (by decide)
    have e6 : x 6 = (.int .i64 (f)) := hV 6 (by decide)
    have e7 : x 7 = (.int .i64 (P - f)) := hV 7 (by decide)
    have e8 : x 8 = (.pointer (some ⟨w.heap.size, 0, none⟩)) := hV 8 (by decide)
    have e9 : x 9 = (.int .i64 (P)) := hV 9 (by decide)
    have e10 : x 10 = (.int .i64 ((-f) % P)) := hV 10 (by decide)
    obtain ⟨A11, c11, e11, h11⟩ := hV 11 (by decide)
    obtain ⟨q0, q1⟩ := hS.1.two
    go_simp
    exact hK.out _ _ _ rfl rfl ⟨_, _, rfl, h11⟩ (Below.refl _ _)
  simp only [List.setIfInBounds_toArray, List.set_cons_zero, List.set_cons_succ]
  refine fun w' hS hV => ?_
  have e0 : x 0 = (.pointer (some ⟨w.heap.size, 0, none⟩)) := hV 0 (by decide)
  have e1 : x 1 = (.int .i64 (P)) := hV 1 (by decide)
  have e2 : x 2 = (.slice Y n cy) := hV 2 (by decide)
  have e3 : x 3 = (.slice U n cu) := hV 3 (by decide)
  have e4 : x 4 = (.pointer (some ⟨w.heap.size, 0, none⟩)) := hV 4 (by decide)
  have e5 : x 5 = (.int .i64 (P)) := hV 5 (by decide)
  have e6 : x 6 = (.int .i64 (f)) := hV 6 (by decide)
  have e7 : x 7 = (.int .i64 (P - f)) := hV 7 (by decide)
  have e8 : x 8 = (.pointer (some ⟨w.heap.size, 0, none⟩)) := hV 8 (by decide)
  have e9 : x 9 = (.int .i64 (P)) := hV 9 (by decide)
  have e10 : x 10 = (.int .i64 ((-f) % P)) := hV 10 (by decide)
  obtain ⟨A11, c11, e11, h11⟩ := hV 11 (by decide)
  obtain ⟨A12, c12, e12, h12⟩ := hV 12 (by decide)
  simp only [e0, e1, e2, e3, e4, e5, e6, e7, e8, e9, e10, e11, e12]
  clear e0 e1 e2 e3 e4 e5 e6 e7 e8 e9 e10 e11 e12
  refine wpAny_done (by kernel_rfl) ?_ _
  go_wp2
  go_ret
  exact ⟨_, _, rfl, HR.out ▸ h12⟩
end Go.Proofs.YtggigolkncckoaaGreat
namespace Go.Proofs.YtggigolkncckoaaGreat
open Go.RowKit
theorem bind_own {rows : List Value} {i : Nat} {v : Value} (h : rows[i]? = some v) : (rows[i]?).bind Value.ownBlock = v.ownBlock := by rw [h]; rfl
theorem Nest.set {w w' : World} {B : Nat} {rows : List Value} {xss : List (List Int)} (h : Nest w B rows xss) {j : Nat} (hj : j < xss.length) {A : Option Addr} {c : Nat} (hr : rows[j]? = some (.slice A xss[j].length c)) {ys : List Int} (hl : ys.length = xss[j].length)
    (ho : Own w' B 2 A xss[j].length c (ints ys)) (hg : w.grownBy w' (Value.slice A xss[j].length c).ownBlock) : Nest w' B rows (xss.set j ys) := by
  refine ⟨by rw [List.length_set]; exact h.len, fun k hk => ?_, h.apart⟩
  have hk' : k < xss.length := by rw [List.length_set] at hk; exact hk
  rw [List.getElem_set]
  by_cases e : j = k
  · subst e
    rw [if_pos rfl, hl]
    exact ⟨A, c, hr, ho⟩
  · rw [if_neg e]
    obtain ⟨A', c', e', ho'⟩ := h.row k hk'
    refine ⟨A', c', e', ho'.grown hg ?_⟩
    cases hb : (Value.slice A' xss[k].length c').ownBlock with
    | none => exact .inl rfl
    | some g =>
      right
      intro hh
      rcases Nat.lt_or_ge j k with hlt | hge
      · exact h.apart j k g hlt ((bind_own hr).trans hh.symm) ((bind_own e').trans hb)
      · exact h.apart k j g (by omega) ((bind_own e').trans hb) ((bind_own hr).trans hh.symm)
/-- A slice of rows of numbers of the call's own, from block B on. -/
def OwnII (w : World) (B : Nat) (A : Option Addr) (n c : Nat) (xss : List (List Int)) : Prop := ∃ rows, Own w B 24 A n c rows ∧ Nest w B rows xss
theorem MkII.own {w0 w : World} {A : Option Addr} {n c : Nat} {xss : List (List Int)} (h : MkII w0 w A n c xss) : OwnII w w0.heap.size A n c xss := by
  obtain ⟨rows, h1, h2⟩ := h
  exact ⟨rows, h1.2, h2⟩
section
variable {w w' : World} {B B' : Nat} {A : Option Addr} {n c : Nat} {xss : List (List Int)}
theorem OwnII.len (h : OwnII w B A n c xss) : xss.length = n := by
  obtain ⟨rows, h1, h2⟩ := h
  rw [← h2.len]
  exact h1.len
theorem OwnII.rd (h : OwnII w B A n c xss) : RdII w A n xss := by
  obtain ⟨rows, hm, hn⟩ := h
  exact ⟨rows, hm.rd, hn.len, fun k hk => by obtain ⟨A', c', e, ho⟩ := hn.row k hk; exact ⟨A', c', e, ho.rd, ho.cap⟩⟩
theorem OwnII.below (h : OwnII w B A n c xss) (hb : Below w.heap.size w w') : OwnII w' B A n c xss := by
  obtain ⟨rows, hm, hn⟩ := h
  exact ⟨rows, hm.below hb, hn.below hb⟩
/-- A block below the base grows. -/
theorem OwnII.grown (h : OwnII w B A n c xss) {row : Option Nat} (hg : w.grownBy w' row) (hlow : ∀ g, row = some g → g < B) : OwnII w' B A n c xss := by
  obtain ⟨rows, hm, hn⟩ := h
  have key : ∀ {E : TypeId} {A' : Option Addr} {n' c' : Nat} {us : List Value}, Own w B E A' n' c' us → ((Value.slice A' n' c').ownBlock = none ∨ (Value.slice A' n' c').ownBlock ≠ row) := by
    intro E A' n' c' us ho
    cases hb : (Value.slice A' n' c').ownBlock with
    | none => exact .inl rfl
    | some g =>
      right
      intro e
      have h1 := hlow g e.symm
      have h2 := (World.ownsRow.lt ho g hb).1
      omega
  exact ⟨rows, hm.grown hg (key hm), hn.len, fun k hk => by obtain ⟨A', c', e, ho⟩ := hn.row k hk; exact ⟨A', c', e, ho.grown hg (key ho)⟩, hn.apart⟩
end
end Go.Proofs.YtggigolkncckoaaGreat
namespace Go.Proofs.YtggigolkncckoaaGreat
open Go.RowKit
theorem Blk.newAt3 {w : World} {t : TypeId} {cs : Array Value} {g : Nat} (hg : g = w.heap.size) : Blk (w.alloc (.cells cs t)) g t cs := hg ▸ Blk.new w t cs
theorem noRow3 {w w' : World} {R : List Int × Int} {x : Int} (hR : R = ([], x)) (hB : Below w.heap.size w w') :
    ∃ (A' : Option Addr) (k c' : Nat), Ending.returned (.tuple #[.slice none 0 0, .int .i64 x]) = .returned (.tuple #[.slice A' k c', .int .i64 R.2]) ∧ MkI w w' A' k c' R.1 := by
  subst hR
  exact ⟨none, 0, 0, rfl, Mk.nil hB⟩
end Go.Proofs.YtggigolkncckoaaGreat
namespace Go.Proofs.YtggigolkncckoaaGreat
open Go.RowKit
/-- The code of a regular space and of vectors. -/
def codeVb (P : Int) (sq : List Int) (vs : List (List Int)) : Int := if codeV P sq vs = 0 then (if regB sq then 0 else 5) else codeV P sq vs
/-- The code of a list of at most 16 vectors. -/
def codeLs (P : Int) (sq : List Int) (vs : List (List Int)) : Int := if codeV P sq vs = 0 then (if 16 < vs.length then 2 else 0) else codeV P sq vs
theorem codeVs_no (P : Int) (sq : List Int) (vs : List (List Int)) : codeVs P sq [] vs = codeVb P sq vs := by
  unfold codeVs codeVb
  by_cases h : isSp P sq = true
  · have : codeM P sq [] = 0 := by unfold codeM; simp [h]
    rw [if_pos this]
  · have h1 : codeM P sq [] = 1 := by unfold codeM; rw [if_neg h]
    have h2 : codeV P sq vs = 1 := by unfold codeV; rw [if_neg h]
    rw [h1, h2]; rfl
theorem codeV_sp {P : Int} {sq : List Int} {vs : List (List Int)} (h : codeV P sq vs = 0) : isSp P sq = true ∧ ∀ v ∈ vs, isVe P sq v = true := by
  unfold codeV at h
  by_cases h1 : isSp P sq = true
  · rw [if_pos h1] at h
    refine ⟨h1, fun v hv => ?_⟩
    cases h2 : isVe P sq v
    · rw [if_pos (List.any_eq_true.2 ⟨v, hv, by rw [h2]; rfl⟩)] at h
      exact absurd h (by decide)
    · rfl
  · rw [if_neg h1] at h; exact absurd h (by decide)
theorem codeV_mk {P : Int} {sq : List Int} {vs : List (List Int)} (h1 : isSp P sq = true) (h : ∀ v ∈ vs, isVe P sq v = true) : codeV P sq vs = 0 := by
  unfold codeV
  rw [if_pos h1, if_neg]
  intro hh
  obtain ⟨v, hv, e⟩ := List.any_eq_true.1 hh
  rw [h v hv] at e
  cases e
theorem isVe_spec5 {P : Int} {sq ys : List Int} (h : isVe P sq ys = true) : ys.length = sq.length ∧ NumsL P ys := by
  unfold isVe at h
  simp only [Bool.and_eq_true, beq_iff_eq] at h
  exact ⟨by have := h.1; omega, nums_numsL h.2⟩
theorem isVe_mk {P : Int} {sq ys : List Int} (h1 : ys.length = sq.length) (h2 : NumsL P ys) : isVe P sq ys = true := by
  unfold isVe nums
  rw [h1, Bool.and_eq_true]
  refine ⟨by simp, List.all_eq_true.2 fun x hx => ?_⟩
  have := h2 x hx
  simp [inR]
  omega
theorem codeV_spec {P : Int} {sq : List Int} {vs : List (List Int)} (h : codeV P sq vs = 0) : isP P = true ∧ 2 ≤ P ∧ P ≤ 13 ∧ 1 ≤ sq.length ∧ sq.length ≤ 6 ∧ NumsL P sq ∧ ∀ v ∈ vs, v.length = sq.length ∧ NumsL P v := by
  obtain ⟨h1, h2⟩ := codeV_sp h
  obtain ⟨hp, hd1, hd2, hnum⟩ := isSp_dim h1
  have := isP_ge hp
  exact ⟨hp, by omega, by omega, hd1, hd2, nums_numsL hnum, fun v hv => isVe_spec5 (h2 v hv)⟩
theorem codeVb_zero {P : Int} {sq : List Int} {vs : List (List Int)} (h : codeVb P sq vs = 0) : codeV P sq vs = 0 ∧ regB sq = true := by
  unfold codeVb at h
  by_cases h1 : codeV P sq vs = 0
  · rw [if_pos h1] at h
    cases h2 : regB sq
    · rw [h2] at h; simp at h
    · exact ⟨h1, rfl⟩
  · rw [if_neg h1] at h; exact absurd h h1
theorem checkVersV_any (P : Int) (A C : Option Addr) (n c l f : Nat) (sq : List Int) (vs : List (List Int)) (w : World) (hn : n ≤ 1048576) (hl : l ≤ 1048576) (ha : Rd w A n (ints sq)) (hc : RdII w C l vs) (hvs : ∀ ys ∈ vs, ys.length ≤ 1048576) :
    Calls Tryz.prog 150 #[.agg #[.int .i64 P, .slice A n c], .slice none 0 0, .slice C l f] w fun e w' => e = .returned (.int .i64 (codeVb P sq vs)) ∧ Below w.heap.size w w' := by
  have h := checkVersors_any P A none C n c 0 0 l f sq [] vs w hn (by omega) hl ha ⟨[], Rd.nil _ _, rfl, fun k h => absurd h (by simp)⟩ (by simp) hc hvs
  rwa [codeVs_no] at h
set_option maxHeartbeats 1600000 in
set_option maxRecDepth 8000 in
theorem l03List_any (P : Int) (A : Option Addr) (n c : Nat) (sq : List Int) (B : Option Addr) (m d : Nat) (L : List (List Int)) (w : World) (hp0 : 0 < P) (hp1 : P ≤ 13) (hn : n ≤ 1048576) (hm : m ≤ 1048576) (ha : Rd w A n (ints sq)) (hb : RdII w B m L) (hL : ∀ ys ∈ L, ys.length ≤ 1048576) :
    Calls Tryz.prog 303 #[.agg #[.int .i64 P, .slice A n c], .slice B m d] w fun e w' => e = .returned (.bool (L.all (isVe P sq) && decide (m ≤ 16))) ∧ Below w.heap.size w w' := by
  have hsl := ha.lenI
  have HSL := Lib.hid hsl
  have HML := Lib.hid hb.len
  have hB0 : Below w.heap.size w (w.alloc (.cells #[.int .i64 P, .slice A n c] 26)) := (Below.refl _ _).alloc (Nat.le_refl _) _
  have k0 : Blk (w.alloc (.cells #[.int .i64 P, .slice A n c] 26)) w.heap.size 26 #[.int .i64 P, .slice A n c] := Blk.new _ _ _
  clear hsl
  go_enter Tryz.func303, Tryz.ntmps303
  go_wp2
  go_loopw [5] (fun i wr => ∃ k : Nat, k ≤ m ∧ i = .int .i64 k ∧ (∀ v ∈ L.take k, isVe P sq v = true) ∧ Blk wr w.heap.size 26 #[.int .i64 P, .slice A n c] ∧ Below w.heap.size w wr) (fun i _ => m - (intOf i).toNat)
  case atStart => exact ⟨0, by omega, rfl, by simp, k0, hB0⟩
  case round =>
    obtain ⟨k, hk, rfl, hall, k2, hB2⟩ := hrel
    have HALL := Lib.hid hall
    clear hall k0 hB0
    by_cases hlt : k < m
    · obtain ⟨g, o, rfl, hxk, A1, c1', hcx, hr, hcc⟩ := (hb.below hB2).at_ hlt
      have hlk := hL _ (List.getElem_mem hxk)
      have HMEM := Lib.hid (List.getElem_mem hxk)
      have HT := Lib.hid (List.take_succ_eq_append_getElem hxk)
      have HVE := Lib.hid fun (w' : World) (h : Below wr.heap.size wr w') => l03Vector_any P A A1 n c L[k].length c1' sq L[k] w' hn HSL.out hlk hp0 hp1 (hr.below h)
      have b1 : (0 : Int) ≤ (k : Int) := by omega
      have b2 : (k : Int) < (m : Int) := by omega
      obtain ⟨bv, hbv⟩ : ∃ b, b = isVe P sq L[k] := ⟨_, rfl⟩
      have HBV := Lib.hid hbv
      rw [← hbv] at HVE
      obtain ⟨q0, q1⟩ := k2.two
      clear hbv hr hcc
      go_wp2
      refine wp_obs 7 [[], [], [], [1, 2], [1, 2, 3], [0, 1, 2, 3, 4], [0, 1, 2, 3, 4, 5]] [VIs (.agg #[.int .i64 P, .slice A n c]), VIs (.slice (some ⟨g, o, none⟩) m d), VIs (.int .i64 (k)), VIs (.pointer (some ⟨g, o + k, none⟩)), VIs (.slice A1 L[k].length c1'), VIs (.bool bv), VIs (.bool (!bv))] (fun w' => w'.cell? ⟨g, o + k, none⟩ = some (.slice A1 L[k].length c1') ∧ Blk w' w.heap.size 26 #[.int .i64 P, .slice A n c] ∧ Below wr.heap.size wr w') (by kernel_rfl) (by kernel_rfl) (fun _ _ h hb => ⟨(hb.cell (World.block_lt_of_cell? _ _ h.1)).trans h.1, h.2.1.below hb h.2.1.lt, h.2.2.trans (hb.mono h.2.2.size)⟩) (⟨hcx, k2.drew, (Below.refl _ _).drew⟩) (fun x => ?_)
      refine obs_step (Eq.trans (by simp only [List.getElem?_toArray, List.getElem?_cons_zero]; exact rfl) rfl) rfl (fun w' hS hV K hK => ?_) ?_
      · have q2 := hS.1; obtain ⟨q0, q1⟩ := hS.2.1.two
        go_simp
        exact hK.out _ _ _ rfl rfl rfl (Below.refl _ _)
      simp only [List.setIfInBounds_toArray, List.set_cons_zero, List.set_cons_succ]
      refine obs_step (Eq.trans (by simp only [List.getElem?_toArray, List.getElem?_cons_succ, List.getElem?_cons_zero]; exact rfl) rfl) rfl (fun w' hS hV K hK => ?_) ?_
      · have q2 := hS.1; obtain ⟨q0, q1⟩ := hS.2.1.two
        go_simp
        exact hK.out _ _ _ rfl rfl rfl (Below.refl _ _)
      simp only [List.setIfInBounds_toArray, List.set_cons_zero, List.set_cons_succ]
      refine obs_step (Eq.trans (by simp only [List.getElem?_toArray, List.getElem?_cons_succ, List.getElem?_cons_zero]; exact rfl) rfl) rfl (fun w' hS hV K hK => ?_) ?_
      · have q2 := hS.1; obtain ⟨q0, q1⟩ := hS.2.1.two
        go_simp
        exact hK.out _ _ _ rfl rfl rfl (Below.refl _ _)
      simp only [List.setIfInBounds_toArray, List.set_cons_zero, List.set_cons_succ]
      refine obs_step (Eq.trans (by simp only [List.getElem?_toArray, List.getElem?_cons_succ, List.getElem?_cons_zero]; exact rfl) rfl) rfl (fun w' hS hV K hK => ?_) ?_
      · have e1 : x 1 = (.slice (some ⟨g, o, none⟩) m d) := hV 1 (by decide)
        have e2 : x 2 = (.int .i64 (k)) := hV 2 (by decide)
        have q2 := hS.1; obtain ⟨q0, q1⟩ := hS.2.1.two
        go_simp
        exact hK.out _ _ _ rfl rfl rfl (Below.refl _ _)
      simp only [List.setIfInBounds_toArray, List.set_cons_zero, List.set_cons_succ]
      refine obs_step (Eq.trans (by simp only [List.getElem?_toArray, List.getElem?_cons_succ, List.getElem?_cons_zero]; exact rfl) rfl) rfl (fun w' hS hV K hK => ?_) ?_
      · have e1 : x 1 = (.slice (some ⟨g, o, none⟩) m d) := hV 1 (by decide)
        have e2 : x 2 = (.int .i64 (k)) := hV 2 (by decide)
        have e3 : x 3 = (.pointer (some ⟨g, o + k, none⟩)) := hV 3 (by decide)
        have q2 := hS.1; obtain ⟨q0, q1⟩ := hS.2.1.two
        go_simp
        exact hK.out _ _ _ rfl rfl rfl (Below.refl _ _)
      simp only [List.setIfInBounds_toArray, List.set_cons_zero, List.set_cons_succ]
      refine obs_step (Eq.trans (by simp only [List.getElem?_toArray, List.getElem?_cons_succ, List.getElem?_cons_zero]; exact rfl) rfl) rfl (fun w' hS hV K hK => ?_) ?_
      · have e0 : x 0 = (.agg #[.int .i64 P, .slice A n c]) := hV 0 (by decide)
        have e1 : x 1 = (.slice (some ⟨g, o, none⟩) m d) := hV 1 (by decide)
        have e2 : x 2 = (.int .i64 (k)) := hV 2 (by decide)
        have e3 : x 3 = (.pointer (some ⟨g, o + k, none⟩)) := hV 3 (by decide)
        have e4 : x 4 = (.slice A1 L[k].length c1') := hV 4 (by decide)
        have q2 := hS.1; obtain ⟨q0, q1⟩ := hS.2.1.two
        go_simp
        refine (HVE.out _ hS.2.2).mono ?_
        rintro e v1 ⟨rfl, hb⟩
        exact hK.out _ _ _ rfl rfl rfl hb
      simp only [List.setIfInBounds_toArray, List.set_cons_zero, List.set_cons_succ]
      refine obs_step (Eq.trans (by simp only [List.getElem?_toArray, List.getElem?_cons_succ, List.getElem?_cons_zero]; exact rfl) rfl) rfl (fun w' hS hV K hK => ?_) ?_
      · have e0 : x 0 = (.agg #[.int .i64 P, .slice A n c]) := hV 0 (by decide)
        have e1 : x 1 = (.slice (some ⟨g, o, none⟩) m d) := hV 1 (by decide)
        have e2 : x 2 = (.int .i64 (k)) := hV 2 (by decide)
        have e3 : x 3 = (.pointer (some ⟨g, o + k, none⟩)) := hV 3 (by decide)
        have e4 : x 4 = (.slice A1 L[k].length c1') := hV 4 (by decide)
        have e5 : x 5 = (.bool bv) := hV 5 (by decide)
        have q2 := hS.1; obtain ⟨q0, q1⟩ := hS.2.1.two
        go_simp
        exact hK.out _ _ _ rfl rfl rfl (Below.refl _ _)
      simp only [List.setIfInBounds_toArray, List.set_cons_zero, List.set_cons_succ]
      refine fun w' hS hV => ?_
      have e0 : x 0 = (.agg #[.int .i64 P, .slice A n c]) := hV 0 (by decide)
      have e1 : x 1 = (.slice (some ⟨g, o, none⟩) m d) := hV 1 (by decide)
      have e2 : x 2 = (.int .i64 (k)) := hV 2 (by decide)
      have e3 : x 3 = (.pointer (some ⟨g, o + k, none⟩)) := hV 3 (by decide)
      have e4 : x 4 = (.slice A1 L[k].length c1') := hV 4 (by decide)
      have e5 : x 5 = (.bool bv) := hV 5 (by decide)
      have e6 : x 6 = (.bool (!bv)) := hV 6 (by decide)
      simp only [e0, e1, e2, e3, e4, e5, e6]
      clear e0 e1 e2 e3 e4 e5 e6
      refine wpAny_done (by kernel_rfl) ?_ _
      obtain ⟨_, k3, hB3⟩ := hS
      obtain ⟨w3, rfl⟩ : ∃ W, W = w' := ⟨_, rfl⟩
      have hB4 := hB2.trans (hB3.mono hB2.size)
      clear hB3 hB2 k2 hcx q0 q1 HVE
      cases bv
      · go_wp2
        go_ret
        refine ⟨ret_bool ?_, hB4⟩
        have : L.all (isVe P sq) = false := by
          rw [← Bool.not_eq_true, List.all_eq_true]
          intro h
          have h1 := h _ HMEM.out
          rw [← HBV.out] at h1
          cases h1
        rw [this]; rfl
      · go_wp2
        go_roundw
        case rel => exact ⟨k + 1, by omega, by go_num, fun v hv => by
          rw [HT.out] at hv
          rcases List.mem_append.1 hv with hv | hv
          · exact HALL.out v hv
          · rw [List.mem_singleton.1 hv]; exact HBV.out.symm, k3, hB4⟩
        case measure => simp [intOf]; omega
    · have e1 : L.all (isVe P sq) = true := List.all_eq_true.2 fun v hv => HALL.out v (by rw [List.take_of_length_le (by rw [HML.out]; omega)]; exact hv)
      have HE := Lib.hid e1
      clear e1
      by_cases h16 : m ≤ 16
      · have t1 : decide ((m : Int) ≤ 16) = true := by simp; omega
        go_wp2
        go_ret
        exact ⟨ret_bool (by rw [HE.out]; simp; omega), hB2⟩
      · have t1 : decide ((m : Int) ≤ 16) = false := by simp; omega
        go_wp2
        go_ret
        exact ⟨ret_bool (by rw [HE.out]; simp; omega), hB2⟩
theorem codeLs_sp {P : Int} {sq : List Int} {L : List (List Int)} (h : isSp P sq = true) : codeLs P sq L = if (L.all (isVe P sq) && decide (L.length ≤ 16)) = true then 0 else 2 := by
  unfold codeLs codeV
  rw [if_pos h]
  have e : (L.any fun ys => !(isVe P sq ys)) = !(L.all (isVe P sq)) := by rw [List.all_eq_not_any_not, Bool.not_not]
  rw [e]
  cases L.all (isVe P sq)
  · simp
  · by_cases h16 : L.length ≤ 16
    · simp [h16, Nat.not_lt.2 h16]
    · simp [h16, Nat.lt_of_not_le h16]
theorem codeLs_no {P : Int} {sq : List Int} {L : List (List Int)} (h : isSp P sq = false) : codeLs P sq L = 1 := by
  unfold codeLs codeV
  rw [h]; rfl
set_option maxHeartbeats 1600000 in
theorem l05List_any (P : Int) (A : Option Addr) (n c : Nat) (sq : List Int) (B : Option Addr) (m d : Nat) (L : List (List Int)) (w : World) (hn : n ≤ 1048576) (hm : m ≤ 1048576) (ha : Rd w A n (ints sq)) (hb : RdII w B m L) (hL : ∀ ys ∈ L, ys.length ≤ 1048576) :
    Calls Tryz.prog 170 #[.agg #[.int .i64 P, .slice A n c], .slice B m d] w fun e w' => e = .returned (.int .i64 (codeLs P sq L)) ∧ Below w.heap.size w w' := by
  have hB0 : Below w.heap.size w (w.alloc (.cells #[.int .i64 P, .slice A n c] 26)) := (Below.refl _ _).alloc (Nat.le_refl _) _
  have k0 : Blk (w.alloc (.cells #[.int .i64 P, .slice A n c] 26)) w.heap.size 26 #[.int .i64 P, .slice A n c] := Blk.new _ _ _
  have HLN := Lib.hid hb.len
  cases h1 : isSp P sq
  · have his := l03Is_b P A n c sq (w.alloc (.cells #[.int .i64 P, .slice A n c] 26)) (by omega) (ha.below hB0) h1
    have HC := Lib.hid (codeLs_no (L := L) h1)
    obtain ⟨q0, q1⟩ := k0.two
    clear h1
    go_enter Tryz.func170, Tryz.ntmps170
    go_wp2_with fail
    refine his.mono ?_
    rintro e w2 ⟨rfl, hb2⟩
    go_wp2
    go_ret
    exact ⟨ret_int HC.out.symm, hB0.trans (hb2.mono hB0.size)⟩
  · have his := l03Is_b P A n c sq (w.alloc (.cells #[.int .i64 P, .slice A n c] 26)) (by omega) (ha.below hB0) h1
    have HC := Lib.hid (codeLs_sp (L := L) h1)
    obtain ⟨HP, -, -, -⟩ := isSp_dim h1
    obtain ⟨hp3, hp2⟩ := isP_ge HP
    obtain ⟨q0, q1⟩ := k0.two
    clear h1
    go_enter Tryz.func170, Tryz.ntmps170
    go_wp2_with fail
    refine his.mono ?_
    rintro e w2 ⟨rfl, hb2⟩
    have hB2 := hB0.trans (hb2.mono hB0.size)
    have k2 := k0.below hb2 k0.lt
    have hli := l03List_any P A n c sq B m d L w2 (by omega) hp2 hn hm (ha.below hB2) (hb.below hB2) hL
    obtain ⟨bv, hbv⟩ : ∃ b, b = (L.all (isVe P sq) && decide (m ≤ 16)) := ⟨_, rfl⟩
    rw [← hbv] at hli
    have HBV := Lib.hid hbv
    clear hbv q0 q1 k0 hB0 hb2
    obtain ⟨q0, q1⟩ := k2.two
    cases bv
    all_goals
      go_wp2_with fail
      refine hli.mono ?_
      rintro e w3 ⟨rfl, hb3⟩
      go_wp2
      go_ret
      exact ⟨ret_int (by rw [HC.out, HLN.out, ← HBV.out]; rfl), hB2.trans (hb3.mono hB2.size)⟩
end Go.Proofs.YtggigolkncckoaaGreat
