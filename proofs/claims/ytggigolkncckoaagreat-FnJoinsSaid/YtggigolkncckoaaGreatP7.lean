/-
  LawFnJoins: part 7 of the texts that the proof needs. No condition.
-/
import Derived.Test.YtggigolkncckoaaGreatP6
namespace Go.Proofs.YtggigolkncckoaaGreat
open Go.RowKit
/-- The outer product of vectors. -/
def wedgesL (P : Int) (sq : List Int) (n : Nat) (L : List (List Int)) : List Int := L.foldl (fun o v => wedgeL P sq o (vecTo n v n)) (bladeL n 0)
theorem wedgesL_snoc (P : Int) (sq : List Int) (n : Nat) (L : List (List Int)) (v : List Int) : wedgesL P sq n (L ++ [v]) = wedgeL P sq (wedgesL P sq n L) (vecTo n v n) := by unfold wedgesL; rw [List.foldl_append]; rfl
theorem wedgesL_len (P : Int) (sq : List Int) (n : Nat) : ∀ (k : Nat) (L : List (List Int)), L.length = k → (wedgesL P sq n L).length = pw n := by
  intro k
  induction k with
  | zero => intro L h; rw [List.eq_nil_of_length_eq_zero h]; exact bladeL_len n 0
  | succ k ih =>
    intro L h
    have hne : L ≠ [] := fun e => by rw [e] at h; simp at h
    rw [← List.dropLast_concat_getLast hne, wedgesL_snoc, wedgeL_len]
    exact ih _ (by rw [List.length_dropLast, h]; rfl)
theorem wedgesL_nums {P : Int} (hp : 2 ≤ P) (sq : List Int) (n : Nat) (L : List (List Int)) : NumsL P (wedgesL P sq n L) := by
  by_cases h : L = []
  · rw [h]; exact bladeL_nums hp n 0
  · rw [← List.dropLast_concat_getLast h, wedgesL_snoc]
    exact wedgeL_nums (by omega) _ _ _
/-- The blade of vectors. -/
def blaL (P : Int) (sq : List Int) (n : Nat) (L : List (List Int)) : List Int := wedgesL P sq n (basisL P L)
theorem blaL_len (P : Int) (sq : List Int) (n : Nat) (L : List (List Int)) : (blaL P sq n L).length = pw n := wedgesL_len P sq n _ _ rfl
theorem blaL_nums {P : Int} (hp : 2 ≤ P) (sq : List Int) (n : Nat) (L : List (List Int)) : NumsL P (blaL P sq n L) := wedgesL_nums hp sq n _
set_option maxHeartbeats 3200000 in
set_option maxRecDepth 8000 in
theorem wedgeAll_any (P : Int) (A : Option Addr) (n c : Nat) (sq : List Int) (B : Option Addr) (m d : Nat) (L : List (List Int)) (w : World) (HP : isP P = true) (hn : n ≤ 6) (h0 : 0 < n) (hm : m ≤ 65536) (ha : Rd w A n (ints sq)) (hs : NumsL P sq) (hb : RdII w B m L) (hL : Tab P n L) :
    Calls Tryz.prog 244 #[.agg #[.int .i64 P, .slice A n c], .slice B m d] w fun e w' => ∃ A' c', e = .returned (.slice A' (pw n) c') ∧ MkI w w' A' (pw n) c' (wedgesL P sq n L) := by
  obtain ⟨hp3, hp2⟩ := isP_ge HP
  have hp : 2 ≤ P := by omega
  have HML := Lib.hid hb.len
  have HTL := Lib.hid hL
  have hB0 : Below w.heap.size w (w.alloc (.cells #[.int .i64 P, .slice A n c] 26)) := (Below.refl _ _).alloc (Nat.le_refl _) _
  have k0 : Blk (w.alloc (.cells #[.int .i64 P, .slice A n c] 26)) w.heap.size 26 #[.int .i64 P, .slice A n c] := Blk.new _ _ _
  obtain ⟨q0, q1⟩ := k0.two
  clear hL
  go_enter Tryz.func244, Tryz.ntmps244
  go_wp2_with fail
  refine (one_any P A n c _ (by omega)).mono ?_
  rintro e w1 ⟨G, c1, rfl, hM1⟩
  have k1 := k0.below hM1.b k0.lt
  have hM := hM1.after hB0
  clear hM1 hB0 k0 q0 q1
  go_wp2
  go_loopw [5, 7, 12] (fun out _ i wr => ∃ (k : Nat) (G : Option Addr) (cg : Nat), k ≤ m ∧ i = .int .i64 k ∧ out = .slice G (pw n) cg ∧ MkI w wr G (pw n) cg (wedgesL P sq n (L.take k)) ∧ Blk wr w.heap.size 26 #[.int .i64 P, .slice A n c]) (fun _ _ i _ => m - (intOf i).toNat)
  case atStart => exact ⟨0, _, _, by omega, rfl, rfl, by simpa [wedgesL] using hM, k1⟩
  case round =>
    obtain ⟨k, G, cg, hk, rfl, rfl, hM2, k2⟩ := hrel
    clear hM k1
    obtain ⟨q0, q1⟩ := k2.two
    by_cases hlt : k < m
    · obtain ⟨g, o, rfl, hxk, A1, c1', hcx, hr, hcc⟩ := (hb.below hM2.b).at_ hlt
      have HRN := Lib.hid (HTL.out L[k] (List.getElem_mem hxk))
      have hl1 := HRN.out.1
      rw [hl1] at hcx hr
      have HR := Lib.hid hr
      have HT : Hid (wedgesL P sq n (L.take (k + 1)) = wedgeL P sq (wedgesL P sq n (L.take k)) (vecTo n L[k] n)) := Lib.hid (by rw [List.take_succ_eq_append_getElem hxk, wedgesL_snoc])
      have HN := Lib.hid (wedgesL_nums hp sq n (L.take k))
      have HM2 := Lib.hid hM2
      have HA := Lib.hid (ha.below hM2.b)
      have HSQ := Lib.hid hs
      obtain ⟨v, hv⟩ : ∃ v, v = L[k] := ⟨_, rfl⟩
      rw [← hv] at HRN HR HT
      obtain ⟨O, hO⟩ : ∃ O, O = wedgesL P sq n (L.take k) := ⟨_, rfl⟩
      rw [← hO] at HT HN HM2
      clear hl1 hr hcc hv hO hM2 hxk
      go_wp2
      refine wp_obs 6 [[], [], [], [], [2, 3], [0, 1, 2, 3, 4], [0, 1, 2, 3, 4, 5]] [VIs (.agg #[.int .i64 P, .slice A n c]), VIs (.slice G (pw n) cg), VIs (.agg #[.int .i64 P, .slice A n c]), VIs (.slice A1 n c1'), VSl wr (pw n) (vecTo n v n), VSl wr (pw n) (wedgeL P sq O (vecTo n v n))] (fun w' => Blk w' w.heap.size 26 #[.int .i64 P, .slice A n c] ∧ Below wr.heap.size wr w') (by kernel_rfl) (by kernel_rfl) (fun _ _ h hb => ⟨h.1.below hb h.1.lt, h.2.trans (hb.mono h.2.size)⟩) (⟨k2.drew, (Below.refl _ _).drew⟩) (fun x => ?_)
      refine obs_step (Eq.trans (by simp only [List.getElem?_toArray, List.getElem?_cons_zero]; exact rfl) rfl) rfl (fun w' hS hV K hK => ?_) ?_
      · obtain ⟨q0, q1⟩ := hS.1.two
        go_simp
        exact hK.out _ _ _ rfl rfl rfl (Below.refl _ _)
      simp only [List.setIfInBounds_toArray, List.set_cons_zero, List.set_cons_succ]
      refine obs_step (Eq.trans (by simp only [List.getElem?_toArray, List.getElem?_cons_succ, List.getElem?_cons_zero]; exact rfl) rfl) rfl (fun w' hS hV K hK => ?_) ?_
      · obtain ⟨q0, q1⟩ := hS.1.two
        go_simp
        exact hK.out _ _ _ rfl rfl rfl (Below.refl _ _)
      simp only [List.setIfInBounds_toArray, List.set_cons_zero, List.set_cons_succ]
      refine obs_step (Eq.trans (by simp only [List.getElem?_toArray, List.getElem?_cons_succ, List.getElem?_cons_zero]; exact rfl) rfl) rfl (fun w' hS hV K hK => ?_) ?_
      · obtain ⟨q0, q1⟩ := hS.1.two
        go_simp
        exact hK.out _ _ _ rfl rfl rfl (Below.refl _ _)
      simp only [List.setIfInBounds_toArray, List.set_cons_zero, List.set_cons_succ]
      refine obs_step (Eq.trans (by simp only [List.getElem?_toArray, List.getElem?_cons_succ, List.getElem?_cons_zero]; exact rfl) rfl) rfl (fun w' hS hV K hK => ?_) ?_
      · obtain ⟨q0, q1⟩ := hS.1.two
        go_simp
        exact hK.out _ _ _ rfl rfl rfl (Below.refl _ _)
      simp only [List.setIfInBounds_toArray, List.set_cons_zero, List.set_cons_succ]
      refine obs_step (Eq.trans (by simp only [List.getElem?_toArray, List.getElem?_cons_succ, List.getElem?_cons_zero]; exact rfl) rfl) rfl (fun w' hS hV K hK => ?_) ?_
      · have e2 : x 2 = (.agg #[.int .i64 P, .slice A n c]) := hV 2 (by decide)
        have e3 : x 3 = (.slice A1 n c1') := hV 3 (by decide)
        obtain ⟨q0, q1⟩ := hS.1.two
        go_simp
        refine (vector_any P A n c _ _ v _ (by omega) (HR.out.below hS.2)).mono ?_
        rintro e v1 ⟨A2, c2, rfl, hM⟩
        exact hK.out _ _ _ rfl rfl ⟨_, _, rfl, hM.after hS.2⟩ hM.b
      simp only [List.setIfInBounds_toArray, List.set_cons_zero, List.set_cons_succ]
      refine obs_step (Eq.trans (by simp only [List.getElem?_toArray, List.getElem?_cons_succ, List.getElem?_cons_zero]; exact rfl) rfl) rfl (fun w' hS hV K hK => ?_) ?_
      · have e0 : x 0 = (.agg #[.int .i64 P, .slice A n c]) := hV 0 (by decide)
        have e1 : x 1 = (.slice G (pw n) cg) := hV 1 (by decide)
        have e2 : x 2 = (.agg #[.int .i64 P, .slice A n c]) := hV 2 (by decide)
        have e3 : x 3 = (.slice A1 n c1') := hV 3 (by decide)
        obtain ⟨A4, c4, e4, h4⟩ := hV 4 (by decide)
        obtain ⟨q0, q1⟩ := hS.1.two
        go_simp
        refine (wedge_any P A n c sq _ _ O _ _ (vecTo n v n) _ hp hp2 hn (HA.out.below hS.2) HSQ.out (HM2.out.below hS.2).rd HN.out h4.rd (vecTo_nums (by omega) n _ HRN.out.2 n)).mono ?_
        rintro e v1 ⟨A2, c2, rfl, hM⟩
        exact hK.out _ _ _ rfl rfl ⟨_, _, rfl, hM.after hS.2⟩ hM.b
      simp only [List.setIfInBounds_toArray, List.set_cons_zero, List.set_cons_succ]
      refine fun w' hS hV => ?_
      have e0 : x 0 = (.agg #[.int .i64 P, .slice A n c]) := hV 0 (by decide)
      have e1 : x 1 = (.slice G (pw n) cg) := hV 1 (by decide)
      have e2 : x 2 = (.agg #[.int .i64 P, .slice A n c]) := hV 2 (by decide)
      have e3 : x 3 = (.slice A1 n c1') := hV 3 (by decide)
      obtain ⟨A4, c4, e4, h4⟩ := hV 4 (by decide)
      obtain ⟨A5, c5, e5, h5⟩ := hV 5 (by decide)
      simp only [e0, e1, e2, e3, e4, e5]
      clear e0 e1 e2 e3 e4 e5
      refine any_one (j := 6) (by kernel_rfl) (Eq.trans (by simp only [List.getElem?_toArray, List.getElem?_cons_succ, List.getElem?_cons_zero]; exact rfl) rfl) (fun K hK => ?_)
      go_simp
      refine hK.out _ _ (wpAny_done (by kernel_rfl) ?_ _)
      have k3 := hS.1
      have HMN := Lib.hid (h5.after HM2.out.b)
      clear hS h5 h4
      go_wp2
      go_roundw
      case rel => exact ⟨k + 1, A5, c5, by omega, by go_num, rfl, by rw [HT.out]; exact HMN.out, k3⟩
      case measure => simp [intOf]; omega
    · obtain rfl : k = m := by omega
      rw [List.take_of_length_le (by rw [HML.out]; exact Nat.le_refl _)] at hM2
      go_wp2
      go_ret
      exact ⟨_, _, rfl, hM2⟩
set_option maxHeartbeats 3200000 in
set_option maxRecDepth 8000 in
theorem l05Vectors_any (P : Int) (A : Option Addr) (n c : Nat) (sq : List Int) (B : Option Addr) (m d : Nat) (L : List (List Int)) (w : World) (HP : isP P = true) (hn : n ≤ 6) (h0 : 0 < n) (hm : m ≤ 65536) (ha : Rd w A n (ints sq)) (hs : NumsL P sq) (hb : RdII w B m L) (hL : Tab P n L) :
    Calls Tryz.prog 327 #[.agg #[.int .i64 P, .slice A n c], .slice B m d] w fun e w' => ∃ A' c', e = .returned (.slice A' (pw n) c') ∧ MkI w w' A' (pw n) c' (wedgesL P sq n L) := by
  obtain ⟨hp3, hp2⟩ := isP_ge HP
  have hp : 2 ≤ P := by omega
  have HML := Lib.hid hb.len
  have HTL := Lib.hid hL
  have hB0 : Below w.heap.size w (w.alloc (.cells #[.int .i64 P, .slice A n c] 26)) := (Below.refl _ _).alloc (Nat.le_refl _) _
  have k0 : Blk (w.alloc (.cells #[.int .i64 P, .slice A n c] 26)) w.heap.size 26 #[.int .i64 P, .slice A n c] := Blk.new _ _ _
  obtain ⟨q0, q1⟩ := k0.two
  clear hL
  go_enter Tryz.func327, Tryz.ntmps327
  go_wp2_with fail
  refine (l04One_any P A n c _ (by omega)).mono ?_
  rintro e w1 ⟨G, c1, rfl, hM1⟩
  have k1 := k0.below hM1.b k0.lt
  have hM := hM1.after hB0
  clear hM1 hB0 k0 q0 q1
  go_wp2
  go_loopw [5, 6] (fun out i wr => ∃ (k : Nat) (G : Option Addr) (cg : Nat), k ≤ m ∧ i = .int .i64 k ∧ out = .slice G (pw n) cg ∧ MkI w wr G (pw n) cg (wedgesL P sq n (L.take k)) ∧ Blk wr w.heap.size 26 #[.int .i64 P, .slice A n c]) (fun _ i _ => m - (intOf i).toNat)
  case atStart => exact ⟨0, _, _, by omega, rfl, rfl, by simpa [wedgesL] using hM, k1⟩
  case round =>
    obtain ⟨k, G, cg, hk, rfl, rfl, hM2, k2⟩ := hrel
    clear hM k1
    obtain ⟨q0, q1⟩ := k2.two
    by_cases hlt : k < m
    · obtain ⟨g, o, rfl, hxk, A1, c1', hcx, hr, hcc⟩ := (hb.below hM2.b).at_ hlt
      have HRN := Lib.hid (HTL.out L[k] (List.getElem_mem hxk))
      have hl1 := HRN.out.1
      rw [hl1] at hcx hr
      have HR := Lib.hid hr
      have HT : Hid (wedgesL P sq n (L.take (k + 1)) = wedgeL P sq (wedgesL P sq n (L.take k)) (vecTo n L[k] n)) := Lib.hid (by rw [List.take_succ_eq_append_getElem hxk, wedgesL_snoc])
      have HN := Lib.hid (wedgesL_nums hp sq n (L.take k))
      have HM2 := Lib.hid hM2
      have HA := Lib.hid (ha.below hM2.b)
      have HSQ := Lib.hid hs
      obtain ⟨v, hv⟩ : ∃ v, v = L[k] := ⟨_, rfl⟩
      rw [← hv] at HRN HR HT
      obtain ⟨O, hO⟩ : ∃ O, O = wedgesL P sq n (L.take k) := ⟨_, rfl⟩
      rw [← hO] at HT HN HM2
      clear hl1 hr hcc hv hO hM2 hxk
      go_wp2
      refine wp_obs 9 [[], [], [], [], [], [3, 4], [3, 4, 5], [2, 3, 4, 5, 6], [0, 1, 2, 3, 4, 5, 6, 7], [0, 1, 2, 3, 4, 5, 6, 7, 8]] [VIs (.agg #[.int .i64 P, .slice A n c]), VIs (.slice G (pw n) cg), VIs (.agg #[.int .i64 P, .slice A n c]), VIs (.slice (some ⟨g, o, none⟩) m d), VIs (.int .i64 (k)), VIs (.pointer (some ⟨g, o + k, none⟩)), VIs (.slice A1 n c1'), VSl wr (pw n) (vecTo n v n), VSl wr (pw n) (wedgeL P sq O (vecTo n v n))] (fun w' => w'.cell? ⟨g, o + k, none⟩ = some (.slice A1 n c1') ∧ Blk w' w.heap.size 26 #[.int .i64 P, .slice A n c] ∧ Below wr.heap.size wr w') (by kernel_rfl) (by kernel_rfl) (fun _ _ h hb => ⟨(hb.cell (World.block_lt_of_cell? _ _ h.1)).trans h.1, h.2.1.below hb h.2.1.lt, h.2.2.trans (hb.mono h.2.2.size)⟩) (⟨hcx, k2.drew, (Below.refl _ _).drew⟩) (fun x => ?_)
      refine obs_step (Eq.trans (by simp only [List.getElem?_toArray, List.getElem?_cons_zero]; exact rfl) rfl) rfl (fun w' hS hV K hK => ?_) ?_
      · have q2 := hS.1; obtain ⟨q0, q1⟩ := hS.2.1.two
        go_simp
        exact hK.out _ _ _ rfl rfl rfl (Below.refl _ _)
      simp only [List.setIfInBounds_toArray, List.set_cons_zero, List.set_cons_succ]
      refine obs_step (Eq.trans (by simp only [List.getElem?_toArray, List.getElem?_cons_succ, List.getElem?_cons_zero]; exact rfl) rfl) rfl (fun w' hS hV K hK => ?_) ?_
      · have q2 := hS.1; obtain ⟨q0, q1⟩ := hS.2.1.two
        go_simp
        exact hK.out _ _ _ rfl rfl rfl (Below.refl _ _)
      simp only [List.setIfInBounds_toArray, List.set_cons_zero, List.set_cons_succ]
      refine obs_step (Eq.trans (by simp only [List.getElem?_toArray, List.getElem?_cons_succ, List.getElem?_cons_zero]; exact rfl) rfl) rfl (fun w' hS hV K hK => ?_) ?_
      · have q2 := hS.1; obtain ⟨q0, q1⟩ := hS.2.1.two
        go_simp
        exact hK.out _ _ _ rfl rfl rfl (Below.refl _ _)
      simp only [List.setIfInBounds_toArray, List.set_cons_zero, List.set_cons_succ]
      refine obs_step (Eq.trans (by simp only [List.getElem?_toArray, List.getElem?_cons_succ, List.getElem?_cons_zero]; exact rfl) rfl) rfl (fun w' hS hV K hK => ?_) ?_
      · have q2 := hS.1; obtain ⟨q0, q1⟩ := hS.2.1.two
        go_simp
        exact hK.out _ _ _ rfl rfl rfl (Below.refl _ _)
      simp only [List.setIfInBounds_toArray, List.set_cons_zero, List.set_cons_succ]
      refine obs_step (Eq.trans (by simp only [List.getElem?_toArray, List.getElem?_cons_succ, List.getElem?_cons_zero]; exact rfl) rfl) rfl (fun w' hS hV K hK => ?_) ?_
      · have q2 := hS.1; obtain ⟨q0, q1⟩ := hS.2.1.two
        go_simp
        exact hK.out _ _ _ rfl rfl rfl (Below.refl _ _)
      simp only [List.setIfInBounds_toArray, List.set_cons_zero, List.set_cons_succ]
      refine obs_step (Eq.trans (by simp only [List.getElem?_toArray, List.getElem?_cons_succ, List.getElem?_cons_zero]; exact rfl) rfl) rfl (fun w' hS hV K hK => ?_) ?_
      · have e3 : x 3 = (.slice (some ⟨g, o, none⟩) m d) := hV 3 (by decide)
        have e4 : x 4 = (.int .i64 (k)) := hV 4 (by decide)
        have q2 := hS.1; obtain ⟨q0, q1⟩ := hS.2.1.two
        go_simp
        exact hK.out _ _ _ rfl rfl rfl (Below.refl _ _)
      simp only [List.setIfInBounds_toArray, List.set_cons_zero, List.set_cons_succ]
      refine obs_step (Eq.trans (by simp only [List.getElem?_toArray, List.getElem?_cons_succ, List.getElem?_cons_zero]; exact rfl) rfl) rfl (fun w' hS hV K hK => ?_) ?_
      · have e3 : x 3 = (.slice (some ⟨g, o, none⟩) m d) := hV 3 (by decide)
        have e4 : x 4 = (.int .i64 (k)) := hV 4 (by decide)
        have e5 : x 5 = (.pointer (some ⟨g, o + k, none⟩)) := hV 5 (by decide)
        have q2 := hS.1; obtain ⟨q0, q1⟩ := hS.2.1.two
        go_simp
        exact hK.out _ _ _ rfl rfl rfl (Below.refl _ _)
      simp only [List.setIfInBounds_toArray, List.set_cons_zero, List.set_cons_succ]
      refine obs_step (Eq.trans (by simp only [List.getElem?_toArray, List.getElem?_cons_succ, List.getElem?_cons_zero]; exact rfl) rfl) rfl (fun w' hS hV K hK => ?_) ?_
      · have e2 : x 2 = (.agg #[.int .i64 P, .slice A n c]) := hV 2 (by decide)
        have e3 : x 3 = (.slice (some ⟨g, o, none⟩) m d) := hV 3 (by decide)
        have e4 : x 4 = (.int .i64 (k)) := hV 4 (by decide)
        have e5 : x 5 = (.pointer (some ⟨g, o + k, none⟩)) := hV 5 (by decide)
        have e6 : x 6 = (.slice A1 n c1') := hV 6 (by decide)
        have q2 := hS.1; obtain ⟨q0, q1⟩ := hS.2.1.two
        go_simp
        refine (l04Vector_any P A n c _ _ v _ (by omega) (HR.out.below hS.2.2)).mono ?_
        rintro e v1 ⟨A2, c2, rfl, hM⟩
        exact hK.out _ _ _ rfl rfl ⟨_, _, rfl, hM.after hS.2.2⟩ hM.b
      simp only [List.setIfInBounds_toArray, List.set_cons_zero, List.set_cons_succ]
      refine obs_step (Eq.trans (by simp only [List.getElem?_toArray, List.getElem?_cons_succ, List.getElem?_cons_zero]; exact rfl) rfl) rfl (fun w' hS hV K hK => ?_) ?_
      · have e0 : x 0 = (.agg #[.int .i64 P, .slice A n c]) := hV 0 (by decide)
        have e1 : x 1 = (.slice G (pw n) cg) := hV 1 (by decide)
        have e2 : x 2 = (.agg #[.int .i64 P, .slice A n c]) := hV 2 (by decide)
        have e3 : x 3 = (.slice (some ⟨g, o, none⟩) m d) := hV 3 (by decide)
        have e4 : x 4 = (.int .i64 (k)) := hV 4 (by decide)
        have e5 : x 5 = (.pointer (some ⟨g, o + k, none⟩)) := hV 5 (by decide)
        have e6 : x 6 = (.slice A1 n c1') := hV 6 (by decide)
        obtain ⟨A7, c7, e7, h7⟩ := hV 7 (by decide)
        have q2 := hS.1; obtain ⟨q0, q1⟩ := hS.2.1.two
        go_simp
        refine (l05Wedge_any P A n c sq _ _ O _ _ (vecTo n v n) _ hp hp2 hn (HA.out.below hS.2.2) HSQ.out (HM2.out.below hS.2.2).rd HN.out h7.rd (vecTo_nums (by omega) n _ HRN.out.2 n)).mono ?_
        rintro e v1 ⟨A2, c2, rfl, hM⟩
        exact hK.out _ _ _ rfl rfl ⟨_, _, rfl, hM.after hS.2.2⟩ hM.b
      simp only [List.setIfInBounds_toArray, List.set_cons_zero, List.set_cons_succ]
      refine fun w' hS hV => ?_
      have e0 : x 0 = (.agg #[.int .i64 P, .slice A n c]) := hV 0 (by decide)
      have e1 : x 1 = (.slice G (pw n) cg) := hV 1 (by decide)
      have e2 : x 2 = (.agg #[.int .i64 P, .slice A n c]) := hV 2 (by decide)
      have e3 : x 3 = (.slice (some ⟨g, o, none⟩) m d) := hV 3 (by decide)
      have e4 : x 4 = (.int .i64 (k)) := hV 4 (by decide)
      have e5 : x 5 = (.pointer (some ⟨g, o + k, none⟩)) := hV 5 (by decide)
      have e6 : x 6 = (.slice A1 n c1') := hV 6 (by decide)
      obtain ⟨A7, c7, e7, h7⟩ := hV 7 (by decide)
      obtain ⟨A8, c8, e8, h8⟩ := hV 8 (by decide)
      simp only [e0, e1, e2, e3, e4, e5, e6, e7, e8]
      clear e0 e1 e2 e3 e4 e5 e6 e7 e8
      refine any_one (j := 9) (by kernel_rfl) (Eq.trans (by simp only [List.getElem?_toArray, List.getElem?_cons_succ, List.getElem?_cons_zero]; exact rfl) rfl) (fun K hK => ?_)
      go_simp
      refine hK.out _ _ (wpAny_done (by kernel_rfl) ?_ _)
      have k3 := hS.2.1
      have HMN := Lib.hid (h8.after HM2.out.b)
      clear hS h8 h7
      go_wp2
      go_roundw
      case rel => exact ⟨k + 1, A8, c8, by omega, by go_num, rfl, by rw [HT.out]; exact HMN.out, k3⟩
      case measure => simp [intOf]; omega
    · obtain rfl : k = m := by omega
      rw [List.take_of_length_le (by rw [HML.out]; exact Nat.le_refl _)] at hM2
      go_wp2
      go_ret
      exact ⟨_, _, rfl, hM2⟩
set_option maxHeartbeats 1600000 in
set_option maxRecDepth 8000 in
theorem bladeOf_any (P : Int) (A : Option Addr) (n c : Nat) (sq : List Int) (B : Option Addr) (m d : Nat) (L : List (List Int)) (w : World) (HP : isP P = true) (hn : n ≤ 6) (h0 : 0 < n) (hm : m ≤ 65536) (ha : Rd w A n (ints sq)) (hs : NumsL P sq) (hb : RdII w B m L) (hL : Tab P n L) :
    Calls Tryz.prog 227 #[.agg #[.int .i64 P, .slice A n c], .slice B m d] w fun e w' => ∃ A' c', e = .returned (.slice A' (pw n) c') ∧ MkI w w' A' (pw n) c' (blaL P sq n L) := by
  obtain ⟨hp3, hp2⟩ := isP_ge HP
  have hp : 2 ≤ P := by omega
  have HBL : Hid (blaL P sq n L = wedgesL P sq n (basisL P L)) := Lib.hid rfl
  have HBT := Lib.hid (basisL_tab (p := P) (by omega) L hL)
  have hbl := (basisL_len (p := P) (by omega) L hL).2
  rw [hb.len] at hbl
  have HPP := Lib.hid HP
  have HBA := Lib.hid (fun w' (h : Below w.heap.size w w') => basis_any P B m d L n w' HP hm (by omega) (hb.below h) hL)
  have hB0 : Below w.heap.size w (w.alloc (.cells #[.int .i64 P, .slice A n c] 26)) := (Below.refl _ _).alloc (Nat.le_refl _) _
  have k0 : Blk (w.alloc (.cells #[.int .i64 P, .slice A n c] 26)) w.heap.size 26 #[.int .i64 P, .slice A n c] := Blk.new _ _ _
  clear hL HP
  go_enter Tryz.func227, Tryz.ntmps227
  go_wp2
  refine wp_obs 7 [[], [], [1], [], [1, 2, 3], [0, 1, 2, 3, 4], [0, 1, 2, 3, 4, 5]] [VIs (.agg #[.int .i64 P, .slice A n c]), VIs (.agg #[.int .i64 P, .slice A n c]), VIs (.int .i64 (P)), VIs (.slice B m d), VMat w (basisL P L).length (basisL P L), VSl w (pw n) (blaL P sq n L), VSl w (pw n) (blaL P sq n L)] (fun w' => Blk w' w.heap.size 26 #[.int .i64 P, .slice A n c] ∧ Below w.heap.size w w') (by kernel_rfl) (by kernel_rfl) (fun _ _ h hb => ⟨h.1.below hb h.1.lt, h.2.trans (hb.mono h.2.size)⟩) (⟨k0.drew, hB0.drew⟩) (fun x => ?_)
  refine obs_step (Eq.trans (by simp only [List.getElem?_toArray, List.getElem?_cons_zero]; exact rfl) rfl) rfl (fun w' hS hV K hK => ?_) ?_
  · obtain ⟨q0, q1⟩ := hS.1.two
    go_simp
    exact hK.out _ _ _ rfl rfl rfl (Below.refl _ _)
  simp only [List.setIfInBounds_toArray, List.set_cons_zero, List.set_cons_succ]
  refine obs_step (Eq.trans (by simp only [List.getElem?_toArray, List.getElem?_cons_succ, List.getElem?_cons_zero]; exact rfl) rfl) rfl (fun w' hS hV K hK => ?_) ?_
  · obtain ⟨q0, q1⟩ := hS.1.two
    go_simp
    exact hK.out _ _ _ rfl rfl rfl (Below.refl _ _)
  simp only [List.setIfInBounds_toArray, List.set_cons_zero, List.set_cons_succ]
  refine obs_step (Eq.trans (by simp only [List.getElem?_toArray, List.getElem?_cons_succ, List.getElem?_cons_zero]; exact rfl) rfl) rfl (fun w' hS hV K hK => ?_) ?_
  · have e1 : x 1 = (.agg #[.int .i64 P, .slice A n c]) := hV 1 (by decide)
    obtain ⟨q0, q1⟩ := hS.1.two
    go_simp
    refine (field_any _ _ _ _ _).mono ?_
    rintro e v1 ⟨rfl, hb⟩
    exact hK.out _ _ _ rfl rfl rfl hb
  simp only [List.setIfInBounds_toArray, List.set_cons_zero, List.set_cons_succ]
  refine obs_step (Eq.trans (by simp only [List.getElem?_toArray, List.getElem?_cons_succ, List.getElem?_cons_zero]; exact rfl) rfl) rfl (fun w' hS hV K hK => ?_) ?_
  · obtain ⟨q0, q1⟩ := hS.1.two
    go_simp
    exact hK.out _ _ _ rfl rfl rfl (Below.refl _ _)
  simp only [List.setIfInBounds_toArray, List.set_cons_zero, List.set_cons_succ]
  refine obs_step (Eq.trans (by simp only [List.getElem?_toArray, List.getElem?_cons_succ, List.getElem?_cons_zero]; exact rfl) rfl) rfl (fun w' hS hV K hK => ?_) ?_
  · have e1 : x 1 = (.agg #[.int .i64 P, .slice A n c]) := hV 1 (by decide)
    have e2 : x 2 = (.int .i64 (P)) := hV 2 (by decide)
    have e3 : x 3 = (.slice B m d) := hV 3 (by decide)
    obtain ⟨q0, q1⟩ := hS.1.two
    go_simp
    refine (HBA.out _ hS.2).mono ?_
    rintro e v1 ⟨A2, c2, rfl, hM⟩
    exact hK.out _ _ _ rfl rfl ⟨_, _, rfl, hM.after hS.2⟩ hM.b
  simp only [List.setIfInBounds_toArray, List.set_cons_zero, List.set_cons_succ]
  refine obs_step (Eq.trans (by simp only [List.getElem?_toArray, List.getElem?_cons_succ, List.getElem?_cons_zero]; exact rfl) rfl) rfl (fun w' hS hV K hK => ?_) ?_
  · have e0 : x 0 = (.agg #[.int .i64 P, .slice A n c]) := hV 0 (by decide)
    have e1 : x 1 = (.agg #[.int .i64 P, .slice A n c]) := hV 1 (by decide)
    have e2 : x 2 = (.int .i64 (P)) := hV 2 (by decide)
    have e3 : x 3 = (.slice B m d) := hV 3 (by decide)
    obtain ⟨A4, c4, e4, h4⟩ := hV 4 (by decide)
    obtain ⟨q0, q1⟩ := hS.1.two
    go_simp
    refine (wedgeAll_any P A n c sq _ _ _ (basisL P L) _ HPP.out hn h0 (by omega) (ha.below hS.2) hs h4.rd HBT.out).mono ?_
    rw [← HBL.out]
    rintro e v1 ⟨A2, c2, rfl, hM⟩
    exact hK.out _ _ _ rfl rfl ⟨_, _, rfl, hM.after hS.2⟩ hM.b
  simp only [List.setIfInBounds_toArray, List.set_cons_zero, List.set_cons_succ]
  refine obs_step (Eq.trans (by simp only [List.getElem?_toArray, List.getElem?_cons_succ, List.getElem?_cons_zero]; exact rfl) rfl) rfl (fun w' hS hV K hK => ?_) ?_
  · have e0 : x 0 = (.agg #[.int .i64 P, .slice A n c]) := hV 0 (by decide)
    have e1 : x 1 = (.agg #[.int .i64 P, .slice A n c]) := hV 1 (by decide)
    have e2 : x 2 = (.int .i64 (P)) := hV 2 (by decide)
    have e3 : x 3 = (.slice B m d) := hV 3 (by decide)
    obtain ⟨A4, c4, e4, h4⟩ := hV 4 (by decide)
    obtain ⟨A5, c5, e5, h5⟩ := hV 5 (by decide)
    obtain ⟨q0, q1⟩ := hS.1.two
    go_simp
    exact hK.out _ _ _ rfl rfl ⟨_, _, rfl, h5⟩ (Below.refl _ _)
  simp only [List.setIfInBounds_toArray, List.set_cons_zero, List.set_cons_succ]
  refine fun w' hS hV => ?_
  have e0 : x 0 = (.agg #[.int .i64 P, .slice A n c]) := hV 0 (by decide)
  have e1 : x 1 = (.agg #[.int .i64 P, .slice A n c]) := hV 1 (by decide)
  have e2 : x 2 = (.int .i64 (P)) := hV 2 (by decide)
  have e3 : x 3 = (.slice B m d) := hV 3 (by decide)
  obtain ⟨A4, c4, e4, h4⟩ := hV 4 (by decide)
  obtain ⟨A5, c5, e5, h5⟩ := hV 5 (by decide)
  obtain ⟨A6, c6, e6, h6⟩ := hV 6 (by decide)
  simp only [e0, e1, e2, e3, e4, e5, e6]
  clear e0 e1 e2 e3 e4 e5 e6
  refine wpAny_done (by kernel_rfl) ?_ _
  go_wp2
  go_ret
  exact ⟨_, _, rfl, h6⟩
set_option maxHeartbeats 1600000 in
set_option maxRecDepth 8000 in
theorem l06Blade_any (P : Int) (A : Option Addr) (n c : Nat) (sq : List Int) (B : Option Addr) (m d : Nat) (L : List (List Int)) (w : World) (HP : isP P = true) (hn : n ≤ 6) (h0 : 0 < n) (hm : m ≤ 65536) (ha : Rd w A n (ints sq)) (hs : NumsL P sq) (hb : RdII w B m L) (hL : Tab P n L) :
    Calls Tryz.prog 230 #[.agg #[.int .i64 P, .slice A n c], .slice B m d] w fun e w' => ∃ A' c', e = .returned (.slice A' (pw n) c') ∧ MkI w w' A' (pw n) c' (blaL P sq n L) := by
  obtain ⟨hp3, hp2⟩ := isP_ge HP
  have hp : 2 ≤ P := by omega
  have HBL : Hid (blaL P sq n L = wedgesL P sq n (basisL P L)) := Lib.hid rfl
  have HBT := Lib.hid (basisL_tab (p := P) (by omega) L hL)
  have hbl := (basisL_len (p := P) (by omega) L hL).2
  rw [hb.len] at hbl
  have HPP := Lib.hid HP
  have HBA := Lib.hid (fun w' (h : Below w.heap.size w w') => l02Basis_any P B m d L n w' HP hm (by omega) (hb.below h) hL)
  have hB0 : Below w.heap.size w (w.alloc (.cells #[.int .i64 P, .slice A n c] 26)) := (Below.refl _ _).alloc (Nat.le_refl _) _
  have k0 : Blk (w.alloc (.cells #[.int .i64 P, .slice A n c] 26)) w.heap.size 26 #[.int .i64 P, .slice A n c] := Blk.new _ _ _
  clear hL HP
  go_enter Tryz.func230, Tryz.ntmps230
  go_wp2
  refine wp_obs 7 [[], [], [1], [], [1, 2, 3], [0, 1, 2, 3, 4], [0, 1, 2, 3, 4, 5]] [VIs (.agg #[.int .i64 P, .slice A n c]), VIs (.pointer (some ⟨w.heap.size, 0, none⟩)), VIs (.int .i64 (P)), VIs (.slice B m d), VMat w (basisL P L).length (basisL P L), VSl w (pw n) (blaL P sq n L), VSl w (pw n) (blaL P sq n L)] (fun w' => Blk w' w.heap.size 26 #[.int .i64 P, .slice A n c] ∧ Below w.heap.size w w') (by kernel_rfl) (by kernel_rfl) (fun _ _ h hb => ⟨h.1.below hb h.1.lt, h.2.trans (hb.mono h.2.size)⟩) (⟨k0.drew, hB0.drew⟩) (fun x => ?_)
  refine obs_step (Eq.trans (by simp only [List.getElem?_toArray, List.getElem?_cons_zero]; exact rfl) rfl) rfl (fun w' hS hV K hK => ?_) ?_
  · obtain ⟨q0, q1⟩ := hS.1.two
    go_simp
    exact hK.out _ _ _ rfl rfl rfl (Below.refl _ _)
  simp only [List.setIfInBounds_toArray, List.set_cons_zero, List.set_cons_succ]
  refine obs_step (Eq.trans (by simp only [List.getElem?_toArray, List.getElem?_cons_succ, List.getElem?_cons_zero]; exact rfl) rfl) rfl (fun w' hS hV K hK => ?_) ?_
  · obtain ⟨q0, q1⟩ := hS.1.two
    go_simp
    exact hK.out _ _ _ rfl rfl rfl (Below.refl _ _)
  simp only [List.setIfInBounds_toArray, List.set_cons_zero, List.set_cons_succ]
  refine obs_step (Eq.trans (by simp only [List.getElem?_toArray, List.getElem?_cons_succ, List.getElem?_cons_zero]; exact rfl) rfl) rfl (fun w' hS hV K hK => ?_) ?_
  · have e1 : x 1 = (.pointer (some ⟨w.heap.size, 0, none⟩)) := hV 1 (by decide)
    obtain ⟨q0, q1⟩ := hS.1.two
    go_simp
    exact hK.out _ _ _ rfl rfl rfl (Below.refl _ _)
  simp only [List.setIfInBounds_toArray, List.set_cons_zero, List.set_cons_succ]
  refine obs_step (Eq.trans (by simp only [List.getElem?_toArray, List.getElem?_cons_succ, List.getElem?_cons_zero]; exact rfl) rfl) rfl (fun w' hS hV K hK => ?_) ?_
  · obtain ⟨q0, q1⟩ := hS.1.two
    go_simp
    exact hK.out _ _ _ rfl rfl rfl (Below.refl _ _)
  simp only [List.setIfInBounds_toArray, List.set_cons_zero, List.set_cons_succ]
  refine obs_step (Eq.trans (by simp only [List.getElem?_toArray, List.getElem?_cons_succ, List.getElem?_cons_zero]; exact rfl) rfl) rfl (fun w' hS hV K hK => ?_) ?_
  · have e1 : x 1 = (.pointer (some ⟨w.heap.size, 0, none⟩)) := hV 1 (by decide)
    have e2 : x 2 = (.int .i64 (P)) := hV 2 (by decide)
    have e3 : x 3 = (.slice B m d) := hV 3 (by decide)
    obtain ⟨q0, q1⟩ := hS.1.two
    go_simp
    refine (HBA.out _ hS.2).mono ?_
    rintro e v1 ⟨A2, c2, rfl, hM⟩
    exact hK.out _ _ _ rfl rfl ⟨_, _, rfl, hM.after hS.2⟩ hM.b
  simp only [List.setIfInBounds_toArray, List.set_cons_zero, List.set_cons_succ]
  refine obs_step (Eq.trans (by simp only [List.getElem?_toArray, List.getElem?_cons_succ, List.getElem?_cons_zero]; exact rfl) rfl) rfl (fun w' hS hV K hK => ?_) ?_
  · have e0 : x 0 = (.agg #[.int .i64 P, .slice A n c]) := hV 0 (by decide)
    have e1 : x 1 = (.pointer (some ⟨w.heap.size, 0, none⟩)) := hV 1 (by decide)
    have e2 : x 2 = (.int .i64 (P)) := hV 2 (by decide)
    have e3 : x 3 = (.slice B m d) := hV 3 (by decide)
    obtain ⟨A4, c4, e4, h4⟩ := hV 4 (by decide)
    obtain ⟨q0, q1⟩ := hS.1.two
    go_simp
    refine (l05Vectors_any P A n c sq _ _ _ (basisL P L) _ HPP.out hn h0 (by omega) (ha.below hS.2) hs h4.rd HBT.out).mono ?_
    rw [← HBL.out]
    rintro e v1 ⟨A2, c2, rfl, hM⟩
    exact hK.out _ _ _ rfl rfl ⟨_, _, rfl, hM.after hS.2⟩ hM.b
  simp only [List.setIfInBounds_toArray, List.set_cons_zero, List.set_cons_succ]
  refine obs_step (Eq.trans (by simp only [List.getElem?_toArray, List.getElem?_cons_succ, List.getElem?_cons_zero]; exact rfl) rfl) rfl (fun w' hS hV K hK => ?_) ?_
  · have e0 : x 0 = (.agg #[.int .i64 P, .slice A n c]) := hV 0 (by decide)
    have e1 : x 1 = (.pointer (some ⟨w.heap.size, 0, none⟩)) := hV 1 (by decide)
    have e2 : x 2 = (.int .i64 (P)) := hV 2 (by decide)
    have e3 : x 3 = (.slice B m d) := hV 3 (by decide)
    obtain ⟨A4, c4, e4, h4⟩ := hV 4 (by decide)
    obtain ⟨A5, c5, e5, h5⟩ := hV 5 (by decide)
    obtain ⟨q0, q1⟩ := hS.1.two
    go_simp
    exact hK.out _ _ _ rfl rfl ⟨_, _, rfl, h5⟩ (Below.refl _ _)
  simp only [List.setIfInBounds_toArray, List.set_cons_zero, List.set_cons_succ]
  refine fun w' hS hV => ?_
  have e0 : x 0 = (.agg #[.int .i64 P, .slice A n c]) := hV 0 (by decide)
  have e1 : x 1 = (.pointer (some ⟨w.heap.size, 0, none⟩)) := hV 1 (by decide)
  have e2 : x 2 = (.int .i64 (P)) := hV 2 (by decide)
  have e3 : x 3 = (.slice B m d) := hV 3 (by decide)
  obtain ⟨A4, c4, e4, h4⟩ := hV 4 (by decide)
  obtain ⟨A5, c5, e5, h5⟩ := hV 5 (by decide)
  obtain ⟨A6, c6, e6, h6⟩ := hV 6 (by decide)
  simp only [e0, e1, e2, e3, e4, e5, e6]
  clear e0 e1 e2 e3 e4 e5 e6
  refine wpAny_done (by kernel_rfl) ?_ _
  go_wp2
  go_ret
  exact ⟨_, _, rfl, h6⟩
/-- A vector with all numbers multiplied by the squares. -/
def weiL (P : Int) (sq v : List Int) : List Int := tab v.length fun i => v.getD i 0 * sq.getD i 0 % P
theorem weiL_len (P : Int) (sq v : List Int) : (weiL P sq v).length = v.length := tab_len _ _
theorem weiL_nums {P : Int} (hp : 0 < P) (sq v : List Int) : NumsL P (weiL P sq v) := NumsL.tab fun i _ => ⟨Int.emod_nonneg _ (by omega), Int.emod_lt_of_pos _ hp⟩
/-- The product of two vectors. -/
def pairL (P : Int) (sq v u : List Int) : Int := dotL P (weiL P sq v) u
theorem pairL_sum {P : Int} {sq v u : List Int} {n : Nat} (hv : v.length = n) : pairL P sq v u = (sumTo n fun i => v.getD i 0 * u.getD i 0 % P * sq.getD i 0) % P := by
  unfold pairL dotL
  rw [weiL_len, hv]
  refine sumTo_mod P fun i hi => ?_
  unfold weiL
  rw [tab_getD (by omega), Int.mul_emod, Int.emod_emod_of_dvd _ (Int.dvd_refl P), ← Int.mul_emod, Int.mul_emod (v.getD i 0 * u.getD i 0 % P), Int.emod_emod_of_dvd _ (Int.dvd_refl P), ← Int.mul_emod, Int.mul_assoc, Int.mul_comm (sq.getD i 0), ← Int.mul_assoc]
set_option maxHeartbeats 3200000 in
set_option maxRecDepth 8000 in
theorem weighted_any (P : Int) (A : Option Addr) (n c : Nat) (sq : List Int) (X : Option Addr) (cx : Nat) (v : List Int) (w : World) (hp : 2 ≤ P) (hp2 : P ≤ 13) (hn : n ≤ 6) (ha : Rd w A n (ints sq)) (hs : NumsL P sq) (hx : Rd w X n (ints v)) (hv : NumsL P v) :
    Calls Tryz.prog 322 #[.agg #[.int .i64 P, .slice A n c], .slice X n cx] w fun e w' => ∃ A' c', e = .returned (.slice A' n c') ∧ MkI w w' A' n c' (weiL P sq v) := by
  have HL : Hid (weiL P sq v = tab n fun i => v.getD i 0 * sq.getD i 0 % P) := Lib.hid (by unfold weiL; rw [hx.lenI])
  have hB0 : Below w.heap.size w (w.alloc (.cells #[.int .i64 P, .slice A n c] 26)) := (Below.refl _ _).alloc (Nat.le_refl _) _
  have k0 : Blk (w.alloc (.cells #[.int .i64 P, .slice A n c] 26)) w.heap.size 26 #[.int .i64 P, .slice A n c] := Blk.new _ _ _
  have k1 := k0.alloc (.cells #[] 2)
  have hM0 := Mk.lit (E := 2) hB0 #[] (by simp)
  have hM1 : MkI w ((w.alloc (.cells #[.int .i64 P, .slice A n c] 26)).alloc (.cells #[] 2)) (some ⟨w.heap.size + 1, 0, none⟩) 0 0 (tab 0 fun i => v.getD i 0 * sq.getD i 0 % P) := by
    simpa [MkI, ints, tab] using hM0
  clear k0 hB0 hM0
  go_enter Tryz.func322, Tryz.ntmps322
  go_wp2
  go_loopw [5, 6, 7, 11] (fun out _ _ i wr => ∃ (j : Nat) (A' : Option Addr) (c' : Nat), j ≤ n ∧ i = .int .i64 j ∧ out = .slice A' j c' ∧ MkI w wr A' j c' (tab j fun i => v.getD i 0 * sq.getD i 0 % P) ∧ Blk wr w.heap.size 26 #[.int .i64 P, .slice A n c]) (fun _ _ _ i _ => n - (intOf i).toNat)
  case atStart => exact ⟨0, _, _, by omega, rfl, rfl, hM1, k1⟩
  case round =>
    obtain ⟨j, A', c', hj, rfl, rfl, hM, k2⟩ := hrel
    clear hM1 k1
    obtain ⟨q0, q1⟩ := k2.two
    by_cases hlt : j < n
    · obtain ⟨g, o, rfl, hxj, hcx⟩ := (hx.below hM.b).int hlt
      obtain ⟨g2, o2, rfl, hyj, hcy⟩ := (ha.below hM.b).int hlt
      obtain ⟨x1, x2⟩ := hv _ (List.getElem_mem hxj)
      obtain ⟨y1, y2⟩ := hs _ (List.getElem_mem hyj)
      have HV : Hid ((tab (j + 1) fun i => v.getD i 0 * sq.getD i 0 % P) = (tab j fun i => v.getD i 0 * sq.getD i 0 % P) ++ [v[j] * sq[j] % P]) := Lib.hid (by rw [tab_succ, getD_of_lt 0 hxj, getD_of_lt 0 hyj])
      obtain ⟨xa, hxe⟩ : ∃ xa, xa = v[j] := ⟨_, rfl⟩
      obtain ⟨ya, hye⟩ : ∃ ya, ya = sq[j] := ⟨_, rfl⟩
      rw [← hxe] at hcx x1 x2 HV
      rw [← hye] at hcy y1 y2 HV
      obtain ⟨m1, m2⟩ := mul_small x1 (show xa ≤ 13 by omega) y1 (show ya ≤ 13 by omega)
      have W1 := i64_fit (xa * ya) (by omega) (by omega)
      have i1 : (0 : Int) ≤ (j : Int) := by omega
      have i2 : (j : Int) < (n : Int) := by omega
      have HM := Lib.hid hM
      clear hxe hye hxj hyj hM
      go_wp2
      refine wp_obs 12 [[], [], [1], [], [], [4], [], [4, 5, 6], [4, 5, 6, 7], [3, 4, 5, 6, 7, 8], [1, 2, 3, 4, 5, 6, 7, 8, 9], [1, 2, 3, 4, 5, 6, 7, 8, 9, 10], [0, 1, 2, 3, 4, 5, 6, 7, 8, 9, 10, 11], [0, 1, 2, 3, 4, 5, 6, 7, 8, 9, 10, 11, 12]] [VIs (.slice A' j c'), VIs (.agg #[.int .i64 P, .slice (some ⟨g2, o2, none⟩) n c]), VIs (.int .i64 (P)), VIs (.int .i64 (xa)), VIs (.pointer (some ⟨w.heap.size, 1, none⟩)), VIs (.slice (some ⟨g2, o2, none⟩) n c), VIs (.int .i64 (j)), VIs (.pointer (some ⟨g2, o2 + j, none⟩)), VIs (.int .i64 (ya)), VIs (.int .i64 (xa * ya)), VIs (.int .i64 (xa * ya % P)), VBs 2 #[.int .i64 (xa * ya % P)]] (fun w' => w'.cell? ⟨g2, o2 + j, none⟩ = some (.int .i64 ya) ∧ Blk w' w.heap.size 26 #[.int .i64 P, .slice (some ⟨g2, o2, none⟩) n c] ∧ Below wr.heap.size wr w') (by kernel_rfl) (by kernel_rfl) (fun _ _ h hb => ⟨(hb.cell (World.block_lt_of_cell? _ _ h.1)).trans h.1, h.2.1.below hb h.2.1.lt, h.2.2.trans (hb.mono h.2.2.size)⟩) (⟨hcy, k2.drew, (Below.refl _ _).drew⟩) (fun x => ?_)
      refine obs_step (Eq.trans (by simp only [List.getElem?_toArray, List.getElem?_cons_zero]; exact rfl) rfl) rfl (fun w' hS hV K hK => ?_) ?_
      · have q2 := hS.1; obtain ⟨q0, q1⟩ := hS.2.1.two
        go_simp
        exact hK.out _ _ _ rfl rfl rfl (Below.refl _ _)
      simp only [List.setIfInBounds_toArray, List.set_cons_zero, List.set_cons_succ]
      refine obs_step (Eq.trans (by simp only [List.getElem?_toArray, List.getElem?_cons_succ, List.getElem?_cons_zero]; exact rfl) rfl) rfl (fun w' hS hV K hK => ?_) ?_
      · have q2 := hS.1; obtain ⟨q0, q1⟩ := hS.2.1.two
        go_simp
        exact hK.out _ _ _ rfl rfl rfl (Below.refl _ _)
      simp only [List.setIfInBounds_toArray, List.set_cons_zero, List.set_cons_succ]
      refine obs_step (Eq.trans (by simp only [List.getElem?_toArray, List.getElem?_cons_succ, List.getElem?_cons_zero]; exact rfl) rfl) rfl (fun w' hS hV K hK => ?_) ?_
      · have e1 : x 1 = (.agg #[.int .i64 P, .slice (some ⟨g2, o2, none⟩) n c]) := hV 1 (by decide)
        have q2 := hS.1; obtain ⟨q0, q1⟩ := hS.2.1.two
        go_simp
        refine (field_any _ _ _ _ _).mono ?_
        rintro e v1 ⟨rfl, hb⟩
        exact hK.out _ _ _ rfl rfl rfl hb
      simp only [List.setIfInBounds_toArray, List.set_cons_zero, List.set_cons_succ]
      refine obs_step (Eq.trans (by simp only [List.getElem?_toArray, List.getElem?_cons_succ, List.getElem?_cons_zero]; exact rfl) rfl) rfl (fun w' hS hV K hK => ?_) ?_
      · have q2 := hS.1; obtain ⟨q0, q1⟩ := hS.2.1.two
        go_simp
        exact hK.out _ _ _ rfl rfl rfl (Below.refl _ _)
      simp only [List.setIfInBounds_toArray, List.set_cons_zero, List.set_cons_succ]
      refine obs_step (Eq.trans (by simp only [List.getElem?_toArray, List.getElem?_cons_succ, List.getElem?_cons_zero]; exact rfl) rfl) rfl (fun w' hS hV K hK => ?_) ?_
      · have q2 := hS.1; obtain ⟨q0, q1⟩ := hS.2.1.two
        go_simp
        exact hK.out _ _ _ rfl rfl rfl (Below.refl _ _)
      simp only [List.setIfInBounds_toArray, List.set_cons_zero, List.set_cons_succ]
      refine obs_step (Eq.trans (by simp only [List.getElem?_toArray, List.getElem?_cons_succ, List.getElem?_cons_zero]; exact rfl) rfl) rfl (fun w' hS hV K hK => ?_) ?_
      · have e4 : x 4 = (.pointer (some ⟨w.heap.size, 1, none⟩)) := hV 4 (by decide)
        have q2 := hS.1; obtain ⟨q0, q1⟩ := hS.2.1.two
        go_simp
        exact hK.out _ _ _ rfl rfl rfl (Below.refl _ _)
      simp only [List.setIfInBounds_toArray, List.set_cons_zero, List.set_cons_succ]
      refine obs_step (Eq.trans (by simp only [List.getElem?_toArray, List.getElem?_cons_succ, List.getElem?_cons_zero]; exact rfl) rfl) rfl (fun w' hS hV K hK => ?_) ?_
      · have q2 := hS.1; obtain ⟨q0, q1⟩ := hS.2.1.two
        go_simp
        exact hK.out _ _ _ rfl rfl rfl (Below.refl _ _)
      simp only [List.setIfInBounds_toArray, List.set_cons_zero, List.set_cons_succ]
      refine obs_step (Eq.trans (by simp only [List.getElem?_toArray, List.getElem?_cons_succ, List.getElem?_cons_zero]; exact rfl) rfl) rfl (fun w' hS hV K hK => ?_) ?_
      · have e4 : x 4 = (.pointer (some ⟨w.heap.size, 1, none⟩)) := hV 4 (by decide)
        have e5 : x 5 = (.slice (some ⟨g2, o2, none⟩) n c) := hV 5 (by decide)
        have e6 : x 6 = (.int .i64 (j)) := hV 6 (by decide)
        have q2 := hS.1; obtain ⟨q0, q1⟩ := hS.2.1.two
        go_simp
        exact hK.out _ _ _ rfl rfl rfl (Below.refl _ _)
      simp only [List.setIfInBounds_toArray, List.set_cons_zero, List.set_cons_succ]
      refine obs_step (Eq.trans (by simp only [List.getElem?_toArray, List.getElem?_cons_succ, List.getElem?_cons_zero]; exact rfl) rfl) rfl (fun w' hS hV K hK => ?_) ?_
      · have e4 : x 4 = (.pointer (some ⟨w.heap.size, 1, none⟩)) := hV 4 (by decide)
        have e5 : x 5 = (.slice (some ⟨g2, o2, none⟩) n c) := hV 5 (by decide)
        have e6 : x 6 = (.int .i64 (j)) := hV 6 (by decide)
        have e7 : x 7 = (.pointer (some ⟨g2, o2 + j, none⟩)) := hV 7 (by decide)
        have q2 := hS.1; obtain ⟨q0, q1⟩ := hS.2.1.two
        go_simp
        exact hK.out _ _ _ rfl rfl rfl (Below.refl _ _)
      simp only [List.setIfInBounds_toArray, List.set_cons_zero, List.set_cons_succ]
      refine obs_step (Eq.trans (by simp only [List.getElem?_toArray, List.getElem?_cons_succ, List.getElem?_cons_zero]; exact rfl) rfl) rfl (fun w' hS hV K hK => ?_) ?_
      · have e3 : x 3 = (.int .i64 (xa)) := hV 3 (by decide)
        have e4 : x 4 = (.pointer (some ⟨w.heap.size, 1, none⟩)) := hV 4 (by decide)
        have e5 : x 5 = (.slice (some ⟨g2, o2, none⟩) n c) := hV 5 (by decide)
        have e6 : x 6 = (.int .i64 (j)) := hV 6 (by decide)
        have e7 : x 7 = (.pointer (some ⟨g2, o2 + j, none⟩)) := hV 7 (by decide)
        have e8 : x 8 = (.int .i64 (ya)) := hV 8 (by decide)
        have q2 := hS.1; obtain ⟨q0, q1⟩ := hS.2.1.two
        go_simp
        exact hK.out _ _ _ rfl rfl rfl (Below.refl _ _)
      simp only [List.setIfInBounds_toArray, List.set_cons_zero, List.set_cons_succ]
      refine obs_step (Eq.trans (by simp only [List.getElem?_toArray, List.getElem?_cons_succ, List.getElem?_cons_zero]; exact rfl) rfl) rfl (fun w' hS hV K hK => ?_) ?_
      · have e1 : x 1 = (.agg #[.int .i64 P, .slice (some ⟨g2, o2, none⟩) n c]) := hV 1 (by decide)
        have e2 : x 2 = (.int .i64 (P)) := hV 2 (by decide)
        have e3 : x 3 = (.int .i64 (xa)) := hV 3 (by decide)
        have e4 : x 4 = (.pointer (some ⟨w.heap.size, 1, none⟩)) := hV 4 (by decide)
        have e5 : x 5 = (.slice (some ⟨g2, o2, none⟩) n c) := hV 5 (by decide)
        have e6 : x 6 = (.int .i64 (j)) := hV 6 (by decide)
        have e7 : x 7 = (.pointer (some ⟨g2, o2 + j, none⟩)) := hV 7 (by decide)
        have e8 : x 8 = (.int .i64 (ya)) := hV 8 (by decide)
        have e9 : x 9 = (.int .i64 (xa * ya)) := hV 9 (by decide)
        have q2 := hS.1; obtain ⟨q0, q1⟩ := hS.2.1.two
        go_simp
        refine (num_any P (xa * ya) _ (by omega) hp2 (by omega) (by omega)).mono ?_
        rintro e v1 ⟨rfl, rfl⟩
        exact hK.out _ _ _ rfl rfl rfl (Below.refl _ _)
      simp only [List.setIfInBounds_toArray, List.set_cons_zero, List.set_cons_succ]
      refine obs_step (Eq.trans (by simp only [List.getElem?_toArray, List.getElem?_cons_succ, List.getElem?_cons_zero]; exact rfl) rfl) rfl (fun w' hS hV K hK => ?_) ?_
      · have e1 : x 1 = (.agg #[.int .i64 P, .slice (some ⟨g2, o2, none⟩) n c]) := hV 1 (by decide)
        have e2 : x 2 = (.int .i64 (P)) := hV 2 (by decide)
        have e3 : x 3 = (.int .i64 (xa)) := hV 3 (by decide)
        have e4 : x 4 = (.pointer (some ⟨w.heap.size, 1, none⟩)) := hV 4 (by decide)
        have e5 : x 5 = (.slice (some ⟨g2, o2, none⟩) n c) := hV 5 (by decide)
        have e6 : x 6 = (.int .i64 (j)) := hV 6 (by decide)
        have e7 : x 7 = (.pointer (some ⟨g2, o2 + j, none⟩)) := hV 7 (by decide)
        have e8 : x 8 = (.int .i64 (ya)) := hV 8 (by decide)
        have e9 : x 9 = (.int .i64 (xa * ya)) := hV 9 (by decide)
        have e10 : x 10 = (.int .i64 (xa * ya % P)) := hV 10 (by decide)
        have q2 := hS.1; obtain ⟨q0, q1⟩ := hS.2.1.two
        go_simp
        exact hK.out _ _ _ rfl rfl ⟨_, rfl, Blk.new _ _ _⟩ ((Below.refl _ _).alloc (Nat.le_refl _) _)
      simp only [List.setIfInBounds_toArray, List.set_cons_zero, List.set_cons_succ]
      refine fun w' hS hV => ?_
      have e0 : x 0 = (.slice A' j c') := hV 0 (by decide)
      have e1 : x 1 = (.agg #[.int .i64 P, .slice (some ⟨g2, o2, none⟩) n c]) := hV 1 (by decide)
      have e2 : x 2 = (.int .i64 (P)) := hV 2 (by decide)
      have e3 : x 3 = (.int .i64 (xa)) := hV 3 (by decide)
      have e4 : x 4 = (.pointer (some ⟨w.heap.size, 1, none⟩)) := hV 4 (by decide)
      have e5 : x 5 = (.slice (some ⟨g2, o2, none⟩) n c) := hV 5 (by decide)
      have e6 : x 6 = (.int .i64 (j)) := hV 6 (by decide)
      have e7 : x 7 = (.pointer (some ⟨g2, o2 + j, none⟩)) := hV 7 (by decide)
      have e8 : x 8 = (.int .i64 (ya)) := hV 8 (by decide)
      have e9 : x 9 = (.int .i64 (xa * ya)) := hV 9 (by decide)
      have e10 : x 10 = (.int .i64 (xa * ya % P)) := hV 10 (by decide)
      obtain ⟨b11, e11, h11⟩ := hV 11 (by decide)
      simp only [e0, e1, e2, e3, e4, e5, e6, e7, e8, e9, e10, e11]
      clear e0 e1 e2 e3 e4 e5 e6 e7 e8 e9 e10 e11
      have s1 := HM.out.below hS.2.2
      have k3 := hS.2.1
      refine any_plain (j := 12) (by kernel_rfl) (Eq.trans (by simp only [List.getElem?_toArray, List.getElem?_cons_succ, List.getElem?_cons_zero]; exact rfl) rfl) rfl (fun K hK => ?_)
      refine wp_app1 w w' 24 2 _ _ Tryz.underlying24 info_i rfl (by omega) _ _ rfl A' j c' _ _ s1 (by omega) rfl _ h11 (by rfl) (by rfl) ?_
      intro A2 c2 w2 hM2 hgr
      refine hK.out _ _ ?_
      simp only [Act.put, List.setIfInBounds_toArray, List.set_cons_zero, List.set_cons_succ]
      refine any_one (j := 13) (by kernel_rfl) (Eq.trans (by simp only [List.getElem?_toArray, List.getElem?_cons_succ, List.getElem?_cons_zero]; exact rfl) rfl) (fun K hK => ?_)
      go_simp
      refine hK.out _ _ (wpAny_done (by kernel_rfl) ?_ _)
      have k4 := k3.grown hgr (s1.2.ne_blk k3 (by decide))
      clear W1 s1 k3 hgr hS
      go_wp2
      go_roundw
      case rel => exact ⟨j + 1, A2, c2, by omega, by go_num, rfl, by rw [HV.out]; simpa [MkI, ints] using hM2, k4⟩
      case measure => simp [intOf]; omega
    · obtain rfl : j = n := by omega
      go_wp2
      go_ret
      exact ⟨_, _, rfl, by rw [HL.out]; exact hM⟩
set_option maxHeartbeats 1600000 in
set_option maxRecDepth 8000 in
theorem pair_any (P : Int) (A : Option Addr) (n c : Nat) (sq : List Int) (X : Option Addr) (cx : Nat) (v : List Int) (Y : Option Addr) (cy : Nat) (u : List Int) (w : World) (hp : 2 ≤ P) (hp2 : P ≤ 13) (hn : n ≤ 6) (ha : Rd w A n (ints sq)) (hs : NumsL P sq) (hx : Rd w X n (ints v)) (hv : NumsL P v) (hy : Rd w Y n (ints u)) (hu : NumsL P u) :
    Calls Tryz.prog 209 #[.agg #[.int .i64 P, .slice A n c], .slice X n cx, .slice Y n cy] w fun e w' => e = .returned (.int .i64 (pairL P sq v u)) ∧ Below w.heap.size w w' := by
  have HPL : Hid (pairL P sq v u = dotL P (weiL P sq v) u) := Lib.hid rfl
  have hB0 : Below w.heap.size w (w.alloc (.cells #[.int .i64 P, .slice A n c] 26)) := (Below.refl _ _).alloc (Nat.le_refl _) _
  have k0 : Blk (w.alloc (.cells #[.int .i64 P, .slice A n c] 26)) w.heap.size 26 #[.int .i64 P, .slice A n c] := Blk.new _ _ _
  go_enter Tryz.func209, Tryz.ntmps209
  go_wp2
  refine wp_obs 8 [[], [0], [], [], [2, 3], [], [0, 1, 2, 3, 4, 5], [0, 1, 2, 3, 4, 5, 6]] [VIs (.agg #[.int .i64 P, .slice A n c]), VIs (.int .i64 (P)), VIs (.agg #[.int .i64 P, .slice A n c]), VIs (.slice X n cx), VSl w n (weiL P sq v), VIs (.slice Y n cy), VIs (.int .i64 (pairL P sq v u)), VIs (.int .i64 (pairL P sq v u))] (fun w' => Blk w' w.heap.size 26 #[.int .i64 P, .slice A n c] ∧ Below w.heap.size w w') (by kernel_rfl) (by kernel_rfl) (fun _ _ h hb => ⟨h.1.below hb h.1.lt, h.2.trans (hb.mono h.2.size)⟩) (⟨k0.drew, hB0.drew⟩) (fun x => ?_)
  refine obs_step (Eq.trans (by simp only [List.getElem?_toArray, List.getElem?_cons_zero]; exact rfl) rfl) rfl (fun w' hS hV K hK => ?_) ?_
  · obtain ⟨q0, q1⟩ := hS.1.two
    go_simp
    exact hK.out _ _ _ rfl rfl rfl (Below.refl _ _)
  simp only [List.setIfInBounds_toArray, List.set_cons_zero, List.set_cons_succ]
  refine obs_step (Eq.trans (by simp only [List.getElem?_toArray, List.getElem?_cons_succ, List.getElem?_cons_zero]; exact rfl) rfl) rfl (fun w' hS hV K hK => ?_) ?_
  · have e0 : x 0 = (.agg #[.int .i64 P, .slice A n c]) := hV 0 (by decide)
    obtain ⟨q0, q1⟩ := hS.1.two
    go_simp
    refine (field_any _ _ _ _ _).mono ?_
    rintro e v1 ⟨rfl, hb⟩
    exact hK.out _ _ _ rfl rfl rfl hb
  simp only [List.setIfInBounds_toArray, List.set_cons_zero, List.set_cons_succ]
  refine obs_step (Eq.trans (by simp only [List.getElem?_toArray, List.getElem?_cons_succ, List.getElem?_cons_zero]; exact rfl) rfl) rfl (fun w' hS hV K hK => ?_) ?_
  · obtain ⟨q0, q1⟩ := hS.1.two
    go_simp
    exact hK.out _ _ _ rfl rfl rfl (Below.refl _ _)
  simp only [List.setIfInBounds_toArray, List.set_cons_zero, List.set_cons_succ]
  refine obs_step (Eq.trans (by simp only [List.getElem?_toArray, List.getElem?_cons_succ, List.getElem?_cons_zero]; exact rfl) rfl) rfl (fun w' hS hV K hK => ?_) ?_
  · obtain ⟨q0, q1⟩ := hS.1.two
    go_simp
    exact hK.out _ _ _ rfl rfl rfl (Below.refl _ _)
  simp only [List.setIfInBounds_toArray, List.set_cons_zero, List.set_cons_succ]
  refine obs_step (Eq.trans (by simp only [List.getElem?_toArray, List.getElem?_cons_succ, List.getElem?_cons_zero]; exact rfl) rfl) rfl (fun w' hS hV K hK => ?_) ?_
  · have e2 : x 2 = (.agg #[.int .i64 P, .slice A n c]) := hV 2 (by decide)
    have e3 : x 3 = (.slice X n cx) := hV 3 (by decide)
    obtain ⟨q0, q1⟩ := hS.1.two
    go_simp
    refine (weighted_any P A n c sq X cx v _ hp hp2 hn (ha.below hS.2) hs (hx.below hS.2) hv).mono ?_
    rintro e v1 ⟨A2, c2, rfl, hM⟩
    exact hK.out _ _ _ rfl rfl ⟨_, _, rfl, hM.after hS.2⟩ hM.b
  simp only [List.setIfInBounds_toArray, List.set_cons_zero, List.set_cons_succ]
  refine obs_step (Eq.trans (by simp only [List.getElem?_toArray, List.getElem?_cons_succ, List.getElem?_cons_zero]; exact rfl) rfl) rfl (fun w' hS hV K hK => ?_) ?_
  · obtain ⟨q0, q1⟩ := hS.1.two
    go_simp
    exact hK.out _ _ _ rfl rfl rfl (Below.refl _ _)
  simp only [List.setIfInBounds_toArray, List.set_cons_zero, List.set_cons_succ]
  refine obs_step (Eq.trans (by simp only [List.getElem?_toArray, List.getElem?_cons_succ, List.getElem?_cons_zero]; exact rfl) rfl) rfl (fun w' hS hV K hK => ?_) ?_
  · have e0 : x 0 = (.agg #[.int .i64 P, .slice A n c]) := hV 0 (by decide)
    have e1 : x 1 = (.int .i64 (P)) := hV 1 (by decide)
    have e2 : x 2 = (.agg #[.int .i64 P, .slice A n c]) := hV 2 (by decide)
    have e3 : x 3 = (.slice X n cx) := hV 3 (by decide)
    obtain ⟨A4, c4, e4, h4⟩ := hV 4 (by decide)
    have e5 : x 5 = (.slice Y n cy) := hV 5 (by decide)
    obtain ⟨q0, q1⟩ := hS.1.two
    go_simp
    refine (dot_any P _ n _ _ n _ (weiL P sq v) u _ hp hp2 (by omega) (Nat.le_refl _) h4.rd (weiL_nums (by omega) _ _) (hy.below hS.2) hu).mono ?_
    rw [← HPL.out]
    rintro e v1 ⟨rfl, rfl⟩
    exact hK.out _ _ _ rfl rfl rfl (Below.refl _ _)
  simp only [List.setIfInBounds_toArray, List.set_cons_zero, List.set_cons_succ]
  refine obs_step (Eq.trans (by simp only [List.getElem?_toArray, List.getElem?_cons_succ, List.getElem?_cons_zero]; exact rfl) rfl) rfl (fun w' hS hV K hK => ?_) ?_
  · have e0 : x 0 = (.agg #[.int .i64 P, .slice A n c]) := hV 0 (by decide)
    have e1 : x 1 = (.int .i64 (P)) := hV 1 (by decide)
    have e2 : x 2 = (.agg #[.int .i64 P, .slice A n c]) := hV 2 (by decide)
    have e3 : x 3 = (.slice X n cx) := hV 3 (by decide)
    obtain ⟨A4, c4, e4, h4⟩ := hV 4 (by decide)
    have e5 : x 5 = (.slice Y n cy) := hV 5 (by decide)
    have e6 : x 6 = (.int .i64 (pairL P sq v u)) := hV 6 (by decide)
    obtain ⟨q0, q1⟩ := hS.1.two
    go_simp
    exact hK.out _ _ _ rfl rfl rfl (Below.refl _ _)
  simp only [List.setIfInBounds_toArray, List.set_cons_zero, List.set_cons_succ]
  refine fun w' hS hV => ?_
  have e0 : x 0 = (.agg #[.int .i64 P, .slice A n c]) := hV 0 (by decide)
  have e1 : x 1 = (.int .i64 (P)) := hV 1 (by decide)
  have e2 : x 2 = (.agg #[.int .i64 P, .slice A n c]) := hV 2 (by decide)
  have e3 : x 3 = (.slice X n cx) := hV 3 (by decide)
  obtain ⟨A4, c4, e4, h4⟩ := hV 4 (by decide)
  have e5 : x 5 = (.slice Y n cy) := hV 5 (by decide)
  have e6 : x 6 = (.int .i64 (pairL P sq v u)) := hV 6 (by decide)
  have e7 : x 7 = (.int .i64 (pairL P sq v u)) := hV 7 (by decide)
  simp only [e0, e1, e2, e3, e4, e5, e6, e7]
  clear e0 e1 e2 e3 e4 e5 e6 e7
  refine wpAny_done (by kernel_rfl) ?_ _
  go_wp2
  go_ret
  exact ⟨rfl, hS.2⟩
end Go.Proofs.YtggigolkncckoaaGreat
namespace Go.Proofs.YtggigolkncckoaaGreat
theorem vecTo_get (n : Nat) (v : List Int) {b : Nat} (hb : b < pw n) : ∀ k, k ≤ n → (vecTo n v k).getD b 0 = sumTo k fun i => if b = 2 ^ i then v.getD i 0 else 0 := by
  intro k
  induction k with
  | zero =>
    intro _
    show (List.replicate (pw n) (0 : Int)).getD b 0 = 0
    rw [getD_of_lt 0 (by simpa using hb)]; simp
  | succ k ih =>
    intro hk
    rw [vecTo_succ, getD_set, vecTo_len, sumTo_succ, ih (by omega)]
    by_cases h : b = 2 ^ k
    · rw [if_pos ⟨h.symm, by rw [← h]; exact hb⟩, if_pos h, sumTo_zero (fun i hi => if_neg (fun e => by
        have := Nat.pow_lt_pow_right (show 1 < 2 by omega) hi
        omega)), Int.zero_add]
    · rw [if_neg (fun e => h e.1.symm), if_neg h, Int.add_zero]
theorem bit_iff (a i : Nat) : bit a i = 1 ↔ a.testBit i = true := by rw [Nat.testBit_eq_decide_div_mod_eq]; unfold bit; simp
theorem and_pow_zero (s i : Nat) : ((s ^^^ 2 ^ i) &&& 2 ^ i == 0) = s.testBit i := by
  have h : (s ^^^ 2 ^ i).testBit i = !s.testBit i := by rw [Nat.testBit_xor, Nat.testBit_two_pow_self]; simp
  cases hs : s.testBit i with
  | true =>
    rw [hs] at h
    rw [beq_iff_eq]
    apply Nat.eq_of_testBit_eq
    intro j
    rw [Nat.testBit_and, Nat.testBit_two_pow, Nat.zero_testBit]
    by_cases hj : i = j
    · subst hj; rw [h]; rfl
    · simp [hj]
  | false =>
    rw [hs] at h
    cases hc : ((s ^^^ 2 ^ i) &&& 2 ^ i == 0) with
    | false => rfl
    | true =>
      have := congrArg (fun x => Nat.testBit x i) (beq_iff_eq.1 hc)
      simp only [Nat.testBit_and, Nat.testBit_two_pow_self, h, Nat.zero_testBit] at this
      cases this
/-- The outer product with a vector, number by number. -/
theorem wedge_vec (P : Int) (sq W v : List Int) (n S : Nat) (hW : W.length = pw n) (hS : S < pw n) :
    (wedgeL P sq W (vecTo n v n)).getD S 0 = (sumTo n fun i => if S.testBit i then W.getD (S ^^^ 2 ^ i) 0 * v.getD i 0 * fac P sq (S ^^^ 2 ^ i) (2 ^ i) else 0) % P := by
  unfold wedgeL
  rw [prodL_getD P sq _ W (vecTo n v n) n S hW (vecTo_len n v n) hS]
  congr 1
  rw [sumTo_congr (g := fun a => sumTo n fun i => if a = S ^^^ 2 ^ i then (if S.testBit i then W.getD (S ^^^ 2 ^ i) 0 * v.getD i 0 * fac P sq (S ^^^ 2 ^ i) (2 ^ i) else 0) else 0) fun a ha => ?_, sumTo_comm]
  · refine sumTo_congr fun i hi => ?_
    have h2 : 2 ^ i < pw n := Nat.pow_lt_pow_right (by omega) hi
    rw [sumTo_one (f := fun a => if a = S ^^^ 2 ^ i then (if S.testBit i then W.getD (S ^^^ 2 ^ i) 0 * v.getD i 0 * fac P sq (S ^^^ 2 ^ i) (2 ^ i) else 0) else 0) (S ^^^ 2 ^ i) (xor_lt hS h2) (fun a _ hne => if_neg hne), if_pos rfl]
  · unfold term
    have hx : a ^^^ S < pw n := xor_lt ha hS
    rw [vecTo_get n v hx n (Nat.le_refl _)]
    by_cases ht : ((a &&& (a ^^^ S)) == 0) = true
    · rw [if_pos ht, Int.mul_comm (W.getD a 0), Int.mul_assoc, Int.mul_comm _ (W.getD a 0 * _), ← sumTo_mul]
      refine sumTo_congr fun i hi => ?_
      by_cases h : a ^^^ S = 2 ^ i
      · have ha' : a = S ^^^ 2 ^ i := by rw [← h, Nat.xor_comm a, ← Nat.xor_assoc, Nat.xor_self, Nat.zero_xor]
        have hs : S.testBit i = true := by rw [← and_pow_zero, ← ha', ← h]; exact ht
        rw [if_pos h, if_pos ha', if_pos hs, ← ha', ← h, Int.mul_assoc, Int.mul_assoc, Int.mul_comm (fac P sq a (a ^^^ S))]
      · rw [if_neg h, Int.mul_zero, if_neg (fun e => h (by rw [e, Nat.xor_comm, ← Nat.xor_assoc, Nat.xor_self, Nat.zero_xor]))]
    · rw [if_neg ht]
      refine (sumTo_zero fun i hi => ?_).symm
      by_cases h : a = S ^^^ 2 ^ i
      · rw [if_pos h, if_neg]
        rw [← and_pow_zero, ← h]
        intro hh
        refine ht ?_
        have : a ^^^ S = 2 ^ i := by rw [h, Nat.xor_comm, ← Nat.xor_assoc, Nat.xor_self, Nat.zero_xor]
        rw [this]; exact hh
      · exact if_neg h
theorem fac_above (P : Int) (sq : List Int) {a c : Nat} (h : a < 2 ^ c) : fac P sq a (2 ^ c) = 1 := by
  have hb : ∀ i, bit (2 ^ c) i = 1 → i = c := fun i hi => by
    rw [bit_iff, Nat.testBit_two_pow] at hi
    exact (by simpa using hi : c = i).symm
  have h1 : ∀ i, swaps a (2 ^ c) i = 0 := by
    intro i
    induction i with
    | zero => rfl
    | succ i ih =>
      simp only [swaps, ih, Nat.zero_add]
      split
      · rename_i hi
        rw [hb i hi, Nat.div_eq_of_lt (Nat.lt_of_lt_of_le h (Nat.pow_le_pow_right (by omega) (by omega))), pc_zero]
      · rfl
  have h2 : ∀ i, common P sq a (2 ^ c) i = 1 := by
    intro i
    induction i with
    | zero => rfl
    | succ i ih =>
      simp only [common]
      rw [if_neg, ih]
      rintro ⟨hi, ha⟩
      rw [hb i hi] at ha
      unfold bit at ha
      rw [Nat.div_eq_of_lt h] at ha; simp at ha
  unfold fac
  rw [h1, h2]; rfl
/-- The mask of the first places. -/
def maskTo (B : List (List Int)) : Nat → Nat
  | 0 => 0
  | k + 1 => maskTo B k ^^^ 2 ^ ld B k
theorem maskTo_lt {n : Nat} {B : List (List Int)} (hR : Red n B) : ∀ k, k ≤ B.length → maskTo B k < pw n := by
  intro k
  induction k with
  | zero => intro _; exact pw_pos n
  | succ k ih => intro hk; exact xor_lt (ih (by omega)) (Nat.pow_lt_pow_right (by omega) (hR.lt k hk))
theorem maskTo_below {n : Nat} {B : List (List Int)} (hR : Red n B) : ∀ k, k < B.length → maskTo B k < 2 ^ ld B k := by
  intro k
  induction k with
  | zero => intro _; exact Nat.two_pow_pos _
  | succ k ih =>
    intro hk
    have h1 := ih (by omega)
    have h2 := hR.mono k (k + 1) (by omega) hk
    have h3 : 2 ^ ld B k < 2 ^ ld B (k + 1) := Nat.pow_lt_pow_right (by omega) h2
    exact Nat.xor_lt_two_pow (by omega) h3
theorem maskTo_bits (B : List (List Int)) : ∀ k, k ≤ B.length → ∀ i, (maskTo B k).testBit i = true → isLd B i = true := by
  intro k
  induction k with
  | zero => intro _ i h; rw [show maskTo B 0 = 0 from rfl, Nat.zero_testBit] at h; cases h
  | succ k ih =>
    intro hk i h
    rw [show maskTo B (k + 1) = maskTo B k ^^^ 2 ^ ld B k from rfl, Nat.testBit_xor, Nat.testBit_two_pow] at h
    by_cases hi : ld B k = i
    · exact isLd_iff.2 ⟨k, hk, hi⟩
    · simp [hi] at h; exact ih (by omega) i h
theorem wedges_at {P : Int} (hp : 2 ≤ P) (sq : List Int) {n : Nat} {B : List (List Int)} (hR : Red n B) :
    ∀ k, k ≤ B.length → ∀ S, S < pw n → (∀ i, S.testBit i = true → isLd B i = true) → (wedgesL P sq n (B.take k)).getD S 0 = if S = maskTo B k then 1 else 0 := by
  intro k
  induction k with
  | zero =>
    intro _ S hS _
    show (bladeL n 0).getD S 0 = _
    rw [bladeL_getD n 0 S hS]
    by_cases h : 0 = S
    · rw [if_pos h, if_pos (show S = maskTo B 0 from h.symm)]
    · rw [if_neg h, if_neg (show ¬ S = maskTo B 0 from fun e => h e.symm)]
  | succ k ih =>
    intro hk S hS hb
    have hkl : k < B.length := by omega
    rw [List.take_succ_eq_append_getElem hkl, wedgesL_snoc, wedge_vec P sq _ _ n S (wedgesL_len P sq n _ _ rfl) hS]
    obtain ⟨c, hc⟩ : ∃ c, c = ld B k := ⟨_, rfl⟩
    have hcn : c < n := by rw [hc]; exact hR.lt k hkl
    have hent : ∀ i, (B[k]).getD i 0 = ent B k i := fun i => by unfold ent; rw [getD_of_lt [] hkl]
    rw [sumTo_one c hcn (fun i hi hic => by
      by_cases ht : S.testBit i = true
      · obtain ⟨j, hj, rfl⟩ := isLd_iff.1 (hb i ht)
        have hjk : k ≠ j := fun e => hic (by rw [hc, e])
        rw [if_pos ht, hent, hR.zero j k hj hkl hjk, Int.mul_zero, Int.zero_mul]
      · rw [if_neg ht])]
    have hone : (B[k]).getD c 0 = 1 := by rw [hent, hc]; exact hR.one k hkl
    have hm : maskTo B (k + 1) = maskTo B k ^^^ 2 ^ c := by rw [hc]; rfl
    have hlow := maskTo_below hR k hkl
    rw [← hc] at hlow
    by_cases ht : S.testBit c = true
    · rw [if_pos ht, hone, ih (by omega) (S ^^^ 2 ^ c) (xor_lt hS (Nat.pow_lt_pow_right (by omega) hcn)) (fun i hi => by
        rw [Nat.testBit_xor, Nat.testBit_two_pow] at hi
        by_cases hci : c = i
        · exact hb i (hci ▸ ht)
        · simp [hci] at hi; exact hb i hi), hm]
      by_cases he : S ^^^ 2 ^ c = maskTo B k
      · have hS' : S = maskTo B k ^^^ 2 ^ c := by rw [← he, Nat.xor_assoc, Nat.xor_self, Nat.xor_zero]
        rw [if_pos he, if_pos hS', he, fac_above P sq hlow, Int.one_mul, Int.one_mul, Int.emod_eq_of_lt (by omega) (by omega)]
      · have hS' : ¬ S = maskTo B k ^^^ 2 ^ c := fun e => he (by rw [e, Nat.xor_assoc, Nat.xor_self, Nat.xor_zero])
        rw [if_neg he, if_neg hS', Int.zero_mul, Int.zero_mul]; simp
    · rw [if_neg ht, if_neg]
      · simp
      · intro e
        refine ht ?_
        rw [e, hm, Nat.testBit_xor, Nat.testBit_lt_two_pow hlow, Nat.testBit_two_pow_self]; rfl
end Go.Proofs.YtggigolkncckoaaGreat
namespace Go.Proofs.YtggigolkncckoaaGreat
theorem cg_add {p a b c d : Int} (h : a % p = b % p) (h' : c % p = d % p) : (a + c) % p = (b + d) % p := by rw [Int.add_emod, h, h', ← Int.add_emod]
theorem cg_mul {p a b c d : Int} (h : a % p = b % p) (h' : c % p = d % p) : a * c % p = b * d % p := by rw [Int.mul_emod, h, h', ← Int.mul_emod]
theorem cg_self (p a : Int) : a % p % p = a % p := Int.emod_emod_of_dvd _ (Int.dvd_refl p)
theorem sumTo_two {n : Nat} {f : Nat → Int} (a b : Nat) (ha : a < n) (hb : b < n) (hab : a ≠ b) (h : ∀ i, i < n → i ≠ a → i ≠ b → f i = 0) : sumTo n f = f a + f b := by
  have e : sumTo n f = sumTo n (fun i => (if i = a then f i else 0) + (if i = a then 0 else f i)) := sumTo_congr fun i _ => by split <;> omega
  rw [e, sumTo_add, sumTo_one (f := fun i => if i = a then f i else 0) a ha (fun i _ hi => if_neg hi), sumTo_one (f := fun i => if i = a then 0 else f i) b hb (fun i hi hib => by
    by_cases hia : i = a
    · exact if_pos hia
    · simp only [if_neg hia]; exact h i hi hia hib)]
  rw [if_pos rfl, if_neg (Ne.symm hab)]
theorem getD_app_left {α : Type} (d : α) {xs : List α} (ys : List α) {i : Nat} (h : i < xs.length) : (xs ++ ys).getD i d = xs.getD i d := by
  rw [getD_of_lt d h, getD_of_lt d (by rw [List.length_append]; omega), List.getElem_append_left h]
theorem getD_app_right {α : Type} (d : α) (xs ys : List α) (i : Nat) : (xs ++ ys).getD (xs.length + i) d = ys.getD i d := by
  by_cases h : i < ys.length
  · rw [getD_of_lt d h, getD_of_lt d (by rw [List.length_append]; omega), List.getElem_append_right (by omega)]
    congr 1; omega
  · rw [getD_of_ge d (show ys.length ≤ i by omega), getD_of_ge d (show (xs ++ ys).length ≤ xs.length + i by rw [List.length_append]; omega)]
/-- A sum of multiples of the rows. -/
def Sp (p : Int) (n : Nat) (m : List (List Int)) (v : Nat → Int) : Prop := ∃ c : Nat → Int, ∀ q, q < n → v q % p = (sumTo m.length fun i => c i * ent m i q) % p
theorem Sp.congr {p : Int} {n : Nat} {m : List (List Int)} {v u : Nat → Int} (h : Sp p n m v) (e : ∀ q, q < n → v q % p = u q % p) : Sp p n m u := by
  obtain ⟨c, hc⟩ := h
  exact ⟨c, fun q hq => (e q hq).symm.trans (hc q hq)⟩
theorem Sp.zero (p : Int) (n : Nat) (m : List (List Int)) : Sp p n m fun _ => 0 := ⟨fun _ => 0, fun q _ => by rw [sumTo_zero fun i _ => Int.zero_mul _]⟩
theorem Sp.add {p : Int} {n : Nat} {m : List (List Int)} {v u : Nat → Int} (h : Sp p n m v) (h' : Sp p n m u) : Sp p n m fun q => v q + u q := by
  obtain ⟨c, hc⟩ := h
  obtain ⟨d, hd⟩ := h'
  refine ⟨fun i => c i + d i, fun q hq => ?_⟩
  rw [sumTo_congr (g := fun i => c i * ent m i q + d i * ent m i q) fun i _ => Int.add_mul _ _ _, sumTo_add]
  exact cg_add (hc q hq) (hd q hq)
theorem Sp.mul {p : Int} {n : Nat} {m : List (List Int)} {v : Nat → Int} (h : Sp p n m v) (k : Int) : Sp p n m fun q => k * v q := by
  obtain ⟨c, hc⟩ := h
  refine ⟨fun i => k * c i, fun q hq => ?_⟩
  rw [sumTo_congr (g := fun i => k * (c i * ent m i q)) fun i _ => Int.mul_assoc _ _ _, sumTo_mul]
  exact cg_mul rfl (hc q hq)
theorem Sp.row {p : Int} {n : Nat} {m : List (List Int)} {i : Nat} (hi : i < m.length) : Sp p n m fun q => ent m i q := by
  refine ⟨fun j => if j = i then 1 else 0, fun q _ => ?_⟩
  rw [sumTo_one (f := fun j => (if j = i then 1 else 0) * ent m j q) i hi (fun j _ hj => by simp only [if_neg hj, Int.zero_mul])]
  simp
theorem Sp.mem {p : Int} {n : Nat} {m : List (List Int)} {x : List Int} (hx : x ∈ m) : Sp p n m fun q => x.getD q 0 := by
  obtain ⟨i, hi, rfl⟩ := List.getElem_of_mem hx
  refine (Sp.row hi).congr fun q _ => ?_
  unfold ent; rw [getD_of_lt [] hi]
theorem Sp.sum {p : Int} {n : Nat} {m : List (List Int)} (k : Nat) {f : Nat → Nat → Int} (h : ∀ i, i < k → Sp p n m (f i)) : Sp p n m fun q => sumTo k fun i => f i q := by
  induction k with
  | zero => exact Sp.zero p n m
  | succ k ih => exact (ih fun i hi => h i (by omega)).add (h k (by omega))
theorem Sp.nil {p : Int} {n : Nat} {v : Nat → Int} (h : Sp p n [] v) : ∀ q, q < n → v q % p = 0 := fun q hq => by
  obtain ⟨c, hc⟩ := h
  rw [hc q hq]; simp [sumTo]
/-- All rows of the first are made of those of the second. -/
def InSp (p : Int) (n : Nat) (m m' : List (List Int)) : Prop := ∀ i, i < m.length → Sp p n m' fun q => ent m i q
theorem InSp.sp {p : Int} {n : Nat} {m m' : List (List Int)} (h : InSp p n m m') {v : Nat → Int} (hv : Sp p n m v) : Sp p n m' v := by
  obtain ⟨c, hc⟩ := hv
  exact (Sp.sum m.length fun i hi => (h i hi).mul (c i)).congr fun q hq => (hc q hq).symm
theorem InSp.refl (p : Int) (n : Nat) (m : List (List Int)) : InSp p n m m := fun _ hi => Sp.row hi
theorem InSp.trans {p : Int} {n : Nat} {m m' m2 : List (List Int)} (h : InSp p n m m') (h' : InSp p n m' m2) : InSp p n m m2 := fun i hi => h'.sp (h i hi)
theorem InSp.of_mem {p : Int} {n : Nat} {m m' : List (List Int)} (h : ∀ x ∈ m, Sp p n m' fun q => x.getD q 0) : InSp p n m m' := fun i hi =>
  (h _ (List.getElem_mem hi)).congr fun q _ => by unfold ent; rw [getD_of_lt [] hi]
theorem InSp.of_sub {p : Int} {n : Nat} {m m' : List (List Int)} (h : ∀ x ∈ m, x ∈ m') : InSp p n m m' := InSp.of_mem fun x hx => Sp.mem (h x hx)
theorem InSp.append {p : Int} {n : Nat} {m1 m2 m' : List (List Int)} (h1 : InSp p n m1 m') (h2 : InSp p n m2 m') : InSp p n (m1 ++ m2) m' := InSp.of_mem fun x hx => by
  rcases List.mem_append.1 hx with h | h
  · exact h1.sp (Sp.mem h)
  · exact h2.sp (Sp.mem h)
theorem Sp.append {p : Int} {n : Nat} {m m' : List (List Int)} {v : Nat → Int} (h : Sp p n (m ++ m') v) : ∃ u u', Sp p n m u ∧ Sp p n m' u' ∧ ∀ q, q < n → v q % p = (u q + u' q) % p := by
  obtain ⟨c, hc⟩ := h
  refine ⟨fun q => sumTo m.length fun i => c i * ent m i q, fun q => sumTo m'.length fun i => c (m.length + i) * ent m' i q, ⟨c, fun _ _ => rfl⟩, ⟨fun i => c (m.length + i), fun _ _ => rfl⟩, fun q hq => ?_⟩
  rw [hc q hq, List.length_append]
  congr 1
  have e1 : ∀ i, i < m.length → ent (m ++ m') i q = ent m i q := fun i hi => by unfold ent; rw [getD_app_left [] _ hi]
  have e2 : ∀ k, sumTo (m.length + k) (fun i => c i * ent (m ++ m') i q) = sumTo m.length (fun i => c i * ent m i q) + sumTo k (fun i => c (m.length + i) * ent m' i q) := by
    intro k
    induction k with
    | zero => exact (sumTo_congr fun i hi => by rw [e1 i hi]).trans (by simp [sumTo])
    | succ k ih =>
      rw [← Nat.add_assoc, sumTo_succ, ih, sumTo_succ]
      have : ent (m ++ m') (m.length + k) q = ent m' k q := by unfold ent; rw [getD_app_right]
      rw [this]; omega
  exact e2 _
/-- Two numbers that have the same remainder and are remainders. -/
theorem cg_eq {p a b : Int} (ha : 0 ≤ a ∧ a < p) (hb : 0 ≤ b ∧ b < p) (h : a % p = b % p) : a = b := by
  rwa [Int.emod_eq_of_lt ha.1 ha.2, Int.emod_eq_of_lt hb.1 hb.2] at h
theorem scaledAt_in {p : Int} (hP : isP p = true) {n : Nat} {m : List (List Int)} (hT : Tab p n m) {k d : Nat} (hd : d < m.length) (hv : pivOf m k d < m.length) :
    InSp p n (scaledAt p m k d) m ∧ InSp p n m (scaledAt p m k d) := by
  have hp : 2 ≤ p := by have := isP_ge hP; omega
  have hlen := scaledAt_len p m k d
  have hE := fun r q hq => ent_scaled (p := p) (k := k) rfl hd hv hT r q hq
  obtain ⟨hb1, hb2⟩ := pivOf_bound m k d (by omega)
  have hx : ent m (pivOf m k d) k ≠ 0 := piv_at m k _ _ (by unfold pivOf at hv; omega)
  obtain ⟨x1, x2⟩ := hT.ent (by omega) (pivOf m k d) k
  obtain ⟨i1, i2, i3⟩ := inv_spec hP (show 0 < ent m (pivOf m k d) k by omega) x2
  have hinv : ent m (pivOf m k d) k * invF p (ent m (pivOf m k d) k) % p = 1 := (i3 _ (by omega) i2).2 rfl
  obtain ⟨v, hv'⟩ : ∃ v, v = pivOf m k d := ⟨_, rfl⟩
  rw [← hv'] at hE hx x1 x2 hinv hv hb1 hb2
  obtain ⟨y, hy⟩ : ∃ y, y = invF p (ent m v k) := ⟨_, rfl⟩
  rw [← hy] at hE hinv
  constructor
  · intro r hr
    rw [hlen] at hr
    by_cases h1 : r = d
    · refine ((Sp.row hv).mul y).congr fun q hq => ?_
      rw [hE r q hq, if_pos h1, cg_self, Int.mul_comm]
    · by_cases h2 : r = v
      · refine (Sp.row hd).congr fun q hq => ?_
        rw [hE r q hq, if_neg h1, if_pos h2]
      · refine (Sp.row hr).congr fun q hq => ?_
        rw [hE r q hq, if_neg h1, if_neg h2]
  · intro r hr
    by_cases h2 : r = v
    · refine ((Sp.row (show d < (scaledAt p m k d).length by omega)).mul (ent m v k)).congr fun q hq => ?_
      rw [hE d q hq, if_pos rfl, h2]
      have e1 : ent m v k * (ent m v q * y % p) % p = ent m v k * (ent m v q * y) % p := cg_mul rfl (cg_self _ _)
      have e2 : ent m v k * (ent m v q * y) = ent m v q * (ent m v k * y) := by rw [Int.mul_comm (ent m v q) y, ← Int.mul_assoc, Int.mul_comm]
      rw [e1, e2]
      have e3 : ent m v q * (ent m v k * y) % p = ent m v q * 1 % p := cg_mul rfl (by rw [hinv, Int.emod_eq_of_lt (by omega) (by omega)])
      rw [e3, Int.mul_one]
    · by_cases h1 : r = d
      · refine (Sp.row (show v < (scaledAt p m k d).length by omega)).congr fun q hq => ?_
        rw [hE v q hq, if_neg (fun e => h2 (h1.trans e.symm)), if_pos rfl, h1]
      · refine (Sp.row (show r < (scaledAt p m k d).length by omega)).congr fun q hq => ?_
        rw [hE r q hq, if_neg h1, if_neg h2]
theorem clearTo_in {p : Int} {n : Nat} {m : List (List Int)} (hT : Tab p n m) {k d : Nat} (hd : d < m.length) :
    InSp p n (clearTo p m d k m.length) m ∧ InSp p n m (clearTo p m d k m.length) := by
  have hlen := clearTo_len p m d k m.length
  have hE := fun r q hr hq => ent_cleared (p := p) hT d k r q hr hq
  constructor
  · intro r hr
    rw [hlen] at hr
    by_cases h1 : r = d
    · refine (Sp.row hd).congr fun q hq => ?_
      rw [hE r q hr hq, if_pos h1]
    · refine ((Sp.row hr).add ((Sp.row hd).mul (-(ent m r k)))).congr fun q hq => ?_
      rw [hE r q hr hq, if_neg h1, cg_self]
  · intro r hr
    by_cases h1 : r = d
    · refine (Sp.row (show d < (clearTo p m d k m.length).length by omega)).congr fun q hq => ?_
      rw [hE d q hd hq, if_pos rfl, h1]
    · refine ((Sp.row (show r < (clearTo p m d k m.length).length by omega)).add ((Sp.row (show d < (clearTo p m d k m.length).length by omega)).mul (ent m r k))).congr fun q hq => ?_
      rw [hE r q hr hq, if_neg h1, hE d q hd hq, if_pos rfl]
      refine (cg_add (cg_self _ _) rfl).trans ?_
      congr 1
      rw [Int.neg_mul]; omega
theorem stepB_in {p : Int} (hP : isP p = true) {n : Nat} {s : List (List Int) × Nat} {k : Nat} (hT : Tab p n s.1) (hd : s.2 ≤ s.1.length) : InSp p n (stepB p k s).1 s.1 ∧ InSp p n s.1 (stepB p k s).1 := by
  unfold stepB
  split
  · exact ⟨InSp.refl _ _ _, InSp.refl _ _ _⟩
  · rename_i hne
    have hb := pivOf_bound s.1 k s.2 hd
    have hp : 2 ≤ p := by have := isP_ge hP; omega
    obtain ⟨a1, a2⟩ := scaledAt_in (k := k) hP hT (show s.2 < s.1.length by omega) (by omega)
    obtain ⟨b1, b2⟩ := clearTo_in (k := k) (d := s.2) (scaledAt_tab (p := p) (k := k) (by omega) hT (show s.2 < s.1.length by omega) (by omega)) (by rw [scaledAt_len]; omega)
    rw [scaledAt_len] at b1 b2
    exact ⟨b1.trans a1, a2.trans b2⟩
theorem basisTo_in {p : Int} (hP : isP p = true) {n : Nat} (m : List (List Int)) (hT : Tab p n m) (k : Nat) (hk : k ≤ n) : InSp p n (basisTo p m k).1 m ∧ InSp p n m (basisTo p m k).1 := by
  have hp : 2 ≤ p := by have := isP_ge hP; omega
  induction k with
  | zero => exact ⟨InSp.refl _ _ _, InSp.refl _ _ _⟩
  | succ k ih =>
    obtain ⟨h1, h2⟩ := ih (by omega)
    obtain ⟨t1, t2, t3⟩ := basisTo_inv (p := p) (by omega) m hT k
    obtain ⟨g1, g2⟩ := stepB_in (k := k) hP (s := basisTo p m k) t1 (by omega)
    exact ⟨g1.trans h1, h2.trans g2⟩
/-- The reduced basis makes what the rows make. -/
theorem basisL_in {p : Int} (hP : isP p = true) {n : Nat} (m : List (List Int)) (hT : Tab p n m) : InSp p n (basisL p m) m ∧ InSp p n m (basisL p m) := by
  have hp : 2 ≤ p := by have := isP_ge hP; omega
  by_cases h0 : 0 < m.length
  · have hl := row0_len hT h0
    obtain ⟨a1, a2⟩ := basisTo_in hP m hT n (Nat.le_refl _)
    obtain ⟨c, hc⟩ := basisTo_ech hP m hT n (Nat.le_refl _)
    obtain ⟨h1, h2, h3⟩ := basisTo_inv (p := p) (by omega) m hT n
    have e : basisL p m = (basisTo p m n).1.take (basisTo p m n).2 := by unfold basisL; rw [hl]
    constructor
    · refine InSp.trans (InSp.of_sub fun x hx => ?_) a1
      rw [e] at hx
      exact List.mem_of_mem_take hx
    · refine a2.trans fun i hi => ?_
      by_cases hid : i < (basisTo p m n).2
      · refine (Sp.mem (x := (basisTo p m n).1[i]) ?_).congr fun q _ => by unfold ent; rw [getD_of_lt [] hi]
        rw [e]
        exact List.mem_take_iff_getElem.2 ⟨i, by omega, rfl⟩
      · exact (Sp.zero _ _ _).congr fun q hq => by rw [hc.rest i (by omega) hi q hq]
  · obtain rfl : m = [] := List.eq_nil_of_length_eq_zero (by omega)
    rw [basisL_nil]
    exact ⟨InSp.refl _ _ _, InSp.refl _ _ _⟩
/-- What a reduced basis makes is told by its numbers at the places of the firsts. -/
theorem Red.coef {p : Int} {n : Nat} {B : List (List Int)} (hR : Red n B) {v : Nat → Int} (hv : Sp p n B v) : ∀ q, q < n → v q % p = (sumTo B.length fun i => v (ld B i) * ent B i q) % p := by
  obtain ⟨c, hc⟩ := hv
  intro q hq
  rw [hc q hq]
  refine sumTo_mod p fun i hi => cg_mul ?_ rfl
  rw [hc _ (hR.lt i hi), sumTo_one (f := fun j => c j * ent B j (ld B i)) i hi (fun j hj hji => by rw [hR.zero i j hi hj hji, Int.mul_zero]), hR.one i hi, Int.mul_one]
theorem Red.lead_of {p : Int} {n : Nat} {B : List (List Int)} (hR : Red n B) {v : Nat → Int} (hv : Sp p n B v) {q0 : Nat} (hq : q0 < n) (h0 : v q0 % p ≠ 0) (hb : ∀ q, q < q0 → v q % p = 0) : ∃ i, i < B.length ∧ ld B i = q0 := by
  refine Classical.byContradiction fun hno => h0 ?_
  rw [hR.coef hv q0 hq]
  refine (sumTo_mod p (g := fun _ => 0) fun i hi => ?_).trans (by rw [sumTo_zero fun _ _ => rfl]; rfl)
  rcases Nat.lt_trichotomy (ld B i) q0 with h | h | h
  · rw [Int.mul_emod, hb _ h]; simp
  · exact absurd ⟨i, hi, h⟩ hno
  · rw [hR.before i q0 h, Int.mul_zero]
theorem Red.leads_le {p : Int} (hp : 2 ≤ p) {n : Nat} {B C : List (List Int)} (hB : Red n B) (hC : Red n C) (h1 : InSp p n B C) (h2 : InSp p n C B) : ∀ i, i < B.length → i < C.length ∧ ld C i = ld B i := by
  have one : ∀ (B C : List (List Int)), Red n B → Red n C → InSp p n B C → ∀ i, i < B.length → ∃ j, j < C.length ∧ ld C j = ld B i := fun B C hB hC h i hi =>
    hC.lead_of (h i hi) (hB.lt i hi) (by rw [hB.one i hi, Int.emod_eq_of_lt (by omega) (by omega)]; omega) (fun q hq => by rw [hB.before i q hq]; simp)
  intro i
  induction i using Nat.strongRecOn with
  | _ i ih =>
    intro hi
    obtain ⟨j, hj, e⟩ := one B C hB hC h1 i hi
    have hij : i ≤ j := by
      refine Nat.le_of_not_lt fun hlt => ?_
      have := (ih j hlt (by omega)).2
      have := hB.inj (i := j) (j := i) (by omega) hi (by omega)
      omega
    have hic : i < C.length := by omega
    refine ⟨hic, ?_⟩
    rcases Nat.lt_or_ge i j with hlt | hge
    · obtain ⟨k, hk, e2⟩ := one C B hC hB h2 i hic
      have m1 := hC.mono i j hlt hj
      rcases Nat.lt_trichotomy k i with h | h | h
      · have := (ih k h (by omega)).2
        have := hC.inj (i := k) (j := i) (by omega) hic (by omega)
        omega
      · subst h; omega
      · have := hB.mono i k h hk; omega
    · obtain rfl : i = j := by omega
      exact e
/-- There is only one reduced basis. -/
theorem Red.unique {p : Int} (hp : 2 ≤ p) {n : Nat} {B C : List (List Int)} (hB : Red n B) (hC : Red n C) (TB : Tab p n B) (TC : Tab p n C) (h1 : InSp p n B C) (h2 : InSp p n C B) : B = C := by
  have a := hB.leads_le hp hC h1 h2
  have b := hC.leads_le hp hB h2 h1
  have hl : B.length = C.length := by
    rcases Nat.lt_trichotomy B.length C.length with h | h | h
    · have := (b B.length h).1; omega
    · exact h
    · have := (a C.length h).1; omega
  refine list_ext_getD [] hl fun i hi => ?_
  have hic : i < C.length := by omega
  obtain ⟨r1, r2⟩ := TB.row hi
  obtain ⟨s1, s2⟩ := TC.row hic
  refine list_ext_getD 0 (by omega) fun q hq => ?_
  rw [r1] at hq
  refine cg_eq (p := p) (TB.ent (by omega) i q) (TC.ent (by omega) i q) ?_
  show ent B i q % p = ent C i q % p
  rw [hC.coef (h1 i hi) q hq]
  congr 1
  rw [sumTo_one (f := fun j => ent B i (ld C j) * ent C j q) i hic (fun j hj hji => by
    rw [← (b j hj).2, hB.zero j i (by omega) hi (Ne.symm hji), Int.zero_mul]), (a i hi).2, hB.one i hi, Int.one_mul]
theorem basisL_same {p : Int} (hP : isP p = true) {n : Nat} {m m' : List (List Int)} (hT : Tab p n m) (hT' : Tab p n m') (h : InSp p n m m') (h' : InSp p n m' m) : basisL p m = basisL p m' := by
  have hp : 2 ≤ p := by have := isP_ge hP; omega
  obtain ⟨a1, a2⟩ := basisL_in hP m hT
  obtain ⟨b1, b2⟩ := basisL_in hP m' hT'
  exact (basisL_red hP m hT).unique hp (basisL_red hP m' hT') (basisL_tab (by omega) m hT) (basisL_tab (by omega) m' hT') ((a1.trans h).trans b2) ((b1.trans h').trans a2)
theorem basisL_of_red {p : Int} (hP : isP p = true) {n : Nat} {B : List (List Int)} (hR : Red n B) (hT : Tab p n B) : basisL p B = B := by
  have hp : 2 ≤ p := by have := isP_ge hP; omega
  obtain ⟨a1, a2⟩ := basisL_in hP B hT
  exact (basisL_red hP B hT).unique hp hR (basisL_tab (by omega) B hT) hT a1 a2
/-- Orthogonal to all rows. -/
def Orth (p : Int) (n : Nat) (m : List (List Int)) (v : Nat → Int) : Prop := ∀ i, i < m.length → (sumTo n fun q => ent m i q * v q) % p = 0
theorem Orth.sp {p : Int} {n : Nat} {m : List (List Int)} {v : Nat → Int} (h : Orth p n m v) {u : Nat → Int} (hu : Sp p n m u) : (sumTo n fun q => u q * v q) % p = 0 := by
  obtain ⟨c, hc⟩ := hu
  have e1 : (sumTo n fun q => u q * v q) % p = (sumTo n fun q => sumTo m.length fun i => c i * (ent m i q * v q)) % p := by
    refine sumTo_mod p fun q hq => ?_
    rw [sumTo_congr (f := fun i => c i * (ent m i q * v q)) (g := fun i => v q * (c i * ent m i q)) (fun i _ => by rw [Int.mul_comm (v q), Int.mul_assoc]), sumTo_mul, Int.mul_comm (v q)]
    exact cg_mul (hc q hq) rfl
  rw [e1, sumTo_comm]
  refine (sumTo_mod p (g := fun _ => 0) fun i hi => ?_).trans (by rw [sumTo_zero fun _ _ => rfl]; rfl)
  rw [sumTo_mul, Int.mul_emod, h i hi]; simp
theorem Orth.of_in {p : Int} {n : Nat} {m m' : List (List Int)} {v : Nat → Int} (h : Orth p n m v) (hi : InSp p n m' m) : Orth p n m' v := fun i hl => h.sp (hi i hl)
theorem Orth.congr {p : Int} {n : Nat} {m : List (List Int)} {v u : Nat → Int} (h : Orth p n m v) (e : ∀ q, q < n → v q % p = u q % p) : Orth p n m u := fun i hi => by
  rw [← h i hi]; exact (sumTo_mod p fun q hq => cg_mul rfl (e q hq)).symm
theorem Orth.append {p : Int} {n : Nat} {m m' : List (List Int)} {v : Nat → Int} : Orth p n (m ++ m') v ↔ Orth p n m v ∧ Orth p n m' v := by
  have hall : ∀ M : List (List Int), Orth p n M v ↔ ∀ x ∈ M, (sumTo n fun q => x.getD q 0 * v q) % p = 0 := fun M => by
    constructor
    · intro h x hx
      obtain ⟨i, hi, rfl⟩ := List.getElem_of_mem hx
      have := h i hi
      unfold ent at this; rwa [getD_of_lt [] hi] at this
    · intro h i hi
      have := h _ (List.getElem_mem hi)
      unfold ent; rwa [getD_of_lt [] hi]
  rw [hall, hall, hall]
  constructor
  · exact fun h => ⟨fun x hx => h x (by simp [hx]), fun x hx => h x (by simp [hx])⟩
  · rintro ⟨h1, h2⟩ x hx
    rcases List.mem_append.1 hx with h | h
    · exact h1 x h
    · exact h2 x h
theorem freeRow_at {p : Int} {B : List (List Int)} {n f k : Nat} (hk : k < n) : (freeRow p B n f).getD k 0 = if k = f then 1 else match ldIdx B k with | some i => (-(ent B i f)) % p | none => 0 := by
  unfold freeRow freePart
  rw [tab_getD hk]; simp
  rfl
theorem freeRow_ld {p : Int} {B : List (List Int)} {n f i : Nat} (hR : Red n B) (hi : i < B.length) (hf : isLd B f = false) : (freeRow p B n f).getD (ld B i) 0 = (-(ent B i f)) % p := by
  rw [freeRow_at (hR.lt i hi), if_neg (fun e => by rw [isLd_iff.2 ⟨i, hi, e⟩] at hf; cases hf), ldIdx_some hR hi]
theorem freeRow_own {p : Int} {B : List (List Int)} {n f : Nat} (hf : f < n) : (freeRow p B n f).getD f 0 = 1 := by rw [freeRow_at hf, if_pos rfl]
theorem freeRow_no {p : Int} {B : List (List Int)} {n f k : Nat} (hk : k < n) (hkf : k ≠ f) (hl : isLd B k = false) : (freeRow p B n f).getD k 0 = 0 := by rw [freeRow_at hk, if_neg hkf, ldIdx_none hl]
theorem freeRow_orth {p : Int} {B : List (List Int)} {n f : Nat} (hR : Red n B) (hf : f < n) (hl : isLd B f = false) : Orth p n B fun q => (freeRow p B n f).getD q 0 := fun i hi => by
  have hne : ld B i ≠ f := fun e => by rw [isLd_iff.2 ⟨i, hi, e⟩] at hl; cases hl
  rw [sumTo_two (f := fun q => ent B i q * (freeRow p B n f).getD q 0) (ld B i) f (hR.lt i hi) hf hne (fun q hq h1 h2 => by
    cases hq' : isLd B q with
    | false => simp only [freeRow_no hq h2 hq', Int.mul_zero]
    | true =>
      obtain ⟨j, hj, rfl⟩ := isLd_iff.1 hq'
      simp only [hR.zero j i hj hi (fun e => h1 (by rw [e])), Int.zero_mul]), freeRow_ld hR hi hl, freeRow_own hf, hR.one i hi, Int.one_mul, Int.mul_one]
  refine (cg_add (cg_self _ _) rfl).trans ?_
  rw [Int.add_comm, ← Int.sub_eq_add_neg, Int.sub_self]; rfl
theorem freeTo_mem {p : Int} {B : List (List Int)} {n k : Nat} {x : List Int} : x ∈ freeTo p B n k ↔ ∃ f, f < k ∧ isLd B f = false ∧ x = freeRow p B n f := by
  unfold freeTo
  rw [List.mem_map]
  constructor
  · rintro ⟨f, hf, rfl⟩
    rw [List.mem_filter] at hf
    exact ⟨f, by simpa using hf.1, by simpa using hf.2, rfl⟩
  · rintro ⟨f, h1, h2, rfl⟩
    exact ⟨f, List.mem_filter.2 ⟨by simpa using h1, by simp [h2]⟩, rfl⟩
/-- What the free rows make is what is orthogonal to the reduced basis. -/
theorem freeTo_sp {p : Int} {B : List (List Int)} {n : Nat} (hR : Red n B) {v : Nat → Int} : Sp p n (freeTo p B n n) v ↔ Orth p n B v := by
  constructor
  · rintro ⟨c, hc⟩ i hi
    have h2 : Orth p n (freeTo p B n n) fun q => ent B i q := fun r hr => by
      have hx := List.getElem_mem hr
      obtain ⟨f, hf, hl, e⟩ := freeTo_mem.1 hx
      have := freeRow_orth (p := p) hR hf hl i hi
      rw [sumTo_congr (g := fun q => ent B i q * (freeRow p B n f).getD q 0) fun q _ => by unfold ent; rw [getD_of_lt [] hr, e, Int.mul_comm]]
      exact this
    have := h2.sp ⟨c, hc⟩
    rw [sumTo_congr (g := fun q => v q * ent B i q) fun q _ => Int.mul_comm _ _]
    exact this
  · intro h
    have hmem : Sp p n (freeTo p B n n) fun q => sumTo n fun f => if isLd B f then 0 else v f * (freeRow p B n f).getD q 0 := Sp.sum n fun f hf => by
      cases hl : isLd B f with
      | true => simp only [if_true]; exact Sp.zero _ _ _
      | false => simp only [Bool.false_eq_true, if_false]; exact (Sp.mem (freeTo_mem.2 ⟨f, hf, hl, rfl⟩)).mul (v f)
    refine hmem.congr fun q hq => ?_
    cases hl : isLd B q with
    | false =>
      rw [sumTo_one (f := fun f => if isLd B f then 0 else v f * (freeRow p B n f).getD q 0) q hq (fun f hf hfq => by
        cases hlf : isLd B f with
        | true => simp
        | false => simp only [Bool.false_eq_true, if_false, freeRow_no hq (Ne.symm hfq) hl, Int.mul_zero])]
      simp only [hl, Bool.false_eq_true, if_false, freeRow_own hq, Int.mul_one]
    | true =>
      obtain ⟨i, hi, rfl⟩ := isLd_iff.1 hl
      have ho := h i hi
      have e1 : (sumTo n fun f => ent B i f * v f) % p = (sumTo n fun f => (if f = ld B i then v f else 0) + (-1) * (if isLd B f then 0 else v f * (freeRow p B n f).getD (ld B i) 0)) % p := by
        refine sumTo_mod p fun f hf => ?_
        cases hlf : isLd B f with
        | true =>
          obtain ⟨j, hj, rfl⟩ := isLd_iff.1 hlf
          simp only [if_true, Int.mul_zero, Int.add_zero]
          by_cases hji : j = i
          · subst hji; rw [if_pos rfl, hR.one j hj, Int.one_mul]
          · rw [if_neg (fun e => hji (hR.inj hj hi e)), hR.zero j i hj hi (Ne.symm hji), Int.zero_mul]
        | false =>
          have hne : f ≠ ld B i := fun e => by rw [e, hl] at hlf; cases hlf
          simp only [Bool.false_eq_true, if_false, if_neg hne, Int.zero_add, freeRow_ld hR hi hlf]
          have : -1 * (v f * (-(ent B i f) % p)) % p = -1 * (v f * (-(ent B i f))) % p := cg_mul rfl (cg_mul rfl (cg_self _ _))
          rw [this]; congr 1
          rw [Int.mul_neg, Int.neg_mul, Int.one_mul, Int.neg_neg, Int.mul_comm]
      rw [e1, sumTo_add, sumTo_mul, sumTo_one (f := fun f => if f = ld B i then v f else 0) (ld B i) hq (fun f _ hf => if_neg hf), if_pos rfl] at ho
      obtain ⟨S, hS⟩ : ∃ S, S = sumTo n fun f => if isLd B f then 0 else v f * (freeRow p B n f).getD (ld B i) 0 := ⟨_, rfl⟩
      rw [← hS] at ho ⊢
      have := cg_add (ho.trans (Int.zero_emod p).symm) (show S % p = S % p from rfl)
      rw [Int.zero_add] at this
      rw [← this]; congr 1; omega
theorem kernL_sp {p : Int} (hP : isP p = true) {n : Nat} {m : List (List Int)} (hT : Tab p n m) {v : Nat → Int} : Sp p n (kernL p m n) v ↔ Orth p n m v := by
  have hp : 2 ≤ p := by have := isP_ge hP; omega
  obtain ⟨a1, a2⟩ := basisL_in hP m hT
  obtain ⟨b1, b2⟩ := basisL_in hP _ (freeTo_tab (p := p) hp (basisL p m) n n)
  constructor
  · exact fun h => ((freeTo_sp (basisL_red hP m hT)).1 (b1.sp h)).of_in a2
  · exact fun h => b2.sp ((freeTo_sp (basisL_red hP m hT)).2 (h.of_in a1))
/-- What is orthogonal to the kernel is made of the rows. -/
theorem kernL_orth {p : Int} (hP : isP p = true) {n : Nat} {m : List (List Int)} (hT : Tab p n m) {v : Nat → Int} : Orth p n (kernL p m n) v ↔ Sp p n m v := by
  have hp : 2 ≤ p := by have := isP_ge hP; omega
  constructor
  · intro h
    obtain ⟨a1, _⟩ := basisL_in hP m hT
    have hR := basisL_red hP m hT
    obtain ⟨B, hB⟩ : ∃ B, B = basisL p m := ⟨_, rfl⟩
    obtain ⟨_, b2⟩ := basisL_in hP _ (freeTo_tab (p := p) hp B n n)
    have hf : Orth p n (freeTo p B n n) v := h.of_in (by unfold kernL; rw [← hB]; exact b2)
    rw [← hB] at a1 hR
    refine a1.sp ((Sp.sum (f := fun i q => v (ld B i) * ent B i q) B.length fun i hi => (Sp.row hi).mul _).congr fun q hq => ?_)
    cases hl : isLd B q with
    | true =>
      obtain ⟨j, hj, rfl⟩ := isLd_iff.1 hl
      rw [sumTo_one (f := fun i => v (ld B i) * ent B i (ld B j)) j hj (fun i hi hij => by rw [hR.zero j i hj hi hij, Int.mul_zero]), hR.one j hj, Int.mul_one]
    | false =>
      have h0 : (sumTo n fun k => (freeRow p B n q).getD k 0 * v k) % p = 0 := hf.sp (Sp.mem (freeTo_mem.2 ⟨q, hq, hl, rfl⟩))
      have e1 : (sumTo n fun k => (freeRow p B n q).getD k 0 * v k) % p = (sumTo n fun k => (if k = q then v k else 0) + (-1) * (sumTo B.length fun i => if k = ld B i then v k * ent B i q else 0)) % p := by
        refine sumTo_mod p fun k hk => ?_
        by_cases hkq : k = q
        · subst hkq
          rw [if_pos rfl, freeRow_own hk, sumTo_zero (f := fun i => if k = ld B i then v k * ent B i k else 0) fun i hi => if_neg (fun e => by rw [isLd_iff.2 ⟨i, hi, e.symm⟩] at hl; cases hl)]
          simp
        · rw [if_neg hkq, Int.zero_add]
          cases hlk : isLd B k with
          | false =>
            rw [freeRow_no hk hkq hlk, sumTo_zero (f := fun i => if k = ld B i then v k * ent B i q else 0) fun i hi => if_neg (fun e => by rw [isLd_iff.2 ⟨i, hi, e.symm⟩] at hlk; cases hlk)]
            simp
          | true =>
            obtain ⟨j, hj, rfl⟩ := isLd_iff.1 hlk
            rw [freeRow_ld hR hj hl, sumTo_one (f := fun i => if ld B j = ld B i then v (ld B j) * ent B i q else 0) j hj (fun i hi hij => if_neg (fun e => hij (hR.inj hi hj e.symm))), if_pos rfl]
            refine (cg_mul (cg_self _ _) rfl).trans ?_
            congr 1
            rw [Int.neg_mul, Int.neg_mul, Int.one_mul, Int.mul_comm]
      rw [e1, sumTo_add, sumTo_mul, sumTo_one (f := fun k => if k = q then v k else 0) q hq (fun k _ hk => if_neg hk), if_pos rfl, sumTo_comm] at h0
      have e2 : (sumTo B.length fun i => sumTo n fun k => if k = ld B i then v k * ent B i q else 0) = sumTo B.length fun i => v (ld B i) * ent B i q := sumTo_congr fun i hi => by
        rw [sumTo_one (f := fun k => if k = ld B i then v k * ent B i q else 0) (ld B i) (hR.lt i hi) (fun k _ hk => if_neg hk), if_pos rfl]
      rw [e2] at h0
      obtain ⟨S, hS⟩ : ∃ S, S = sumTo B.length fun i => v (ld B i) * ent B i q := ⟨_, rfl⟩
      rw [← hS] at h0
      show sumTo B.length (fun i => v (ld B i) * ent B i q) % p = v q % p
      rw [← hS]
      have := cg_add (h0.trans (Int.zero_emod p).symm) (show S % p = S % p from rfl)
      rw [Int.zero_add] at this
      rw [← this]; congr 1; omega
  · intro h i hi
    have hk := (kernL_sp hP hT).1 (Sp.row (p := p) (n := n) hi)
    rw [sumTo_congr (g := fun q => v q * ent (kernL p m n) i q) fun q _ => Int.mul_comm _ _]
    exact hk.sp h
end Go.Proofs.YtggigolkncckoaaGreat
namespace Go.Proofs.YtggigolkncckoaaGreat
theorem transL_row {m : List (List Int)} {n q : Nat} {p : Int} (hT : Tab p n m) (h0 : 0 < m.length) (hq : q < n) : (transL m).getD q [] = tab m.length fun i => ent m i q := by
  unfold transL
  rw [row0_len hT h0, tab_getD hq]
theorem apply_at {p : Int} {n : Nat} {a : List (List Int)} (hT : Tab p n a) (h0 : 0 < a.length) (z : List Int) {q : Nat} (hq : q < n) : (applyL p (transL a) z).getD q 0 = (sumTo a.length fun i => ent a i q * z.getD i 0) % p := by
  unfold applyL
  rw [tab_getD (by rw [transL_len hT h0]; exact hq), transL_row hT h0 hq]
  unfold dotL
  rw [tab_len]
  congr 1
  exact sumTo_congr fun i hi => by rw [tab_getD hi]
/-- The common vectors that the sums that are 0 tell. -/
def outL (p : Int) (a K : List (List Int)) : List (List Int) := K.map fun z => applyL p (transL a) (z.take a.length)
def commonL (p : Int) (a b : List (List Int)) : List (List Int) := if a.length = 0 ∨ b.length = 0 then [] else basisL p (outL p a (kernL p (transL (a ++ b)) (a.length + b.length)))
def comL (p : Int) (n : Nat) (a b : List (List Int)) : List (List Int) := kernL p (kernL p a n ++ kernL p b n) n
theorem outL_tab {p : Int} {n : Nat} (hp : 0 < p) {a : List (List Int)} (hT : Tab p n a) (h0 : 0 < a.length) (K : List (List Int)) : Tab p n (outL p a K) := fun x hx => by
  obtain ⟨z, _, rfl⟩ := List.mem_map.1 hx
  refine ⟨by unfold applyL; rw [tab_len, transL_len hT h0], ?_⟩
  unfold applyL
  exact NumsL.tab fun i _ => by unfold dotL; exact ⟨Int.emod_nonneg _ (by omega), Int.emod_lt_of_pos _ hp⟩
theorem commonL_tab {p : Int} {n : Nat} (hp : 0 < p) {a b : List (List Int)} (ha : Tab p n a) : Tab p n (commonL p a b) := by
  unfold commonL
  split
  · exact Tab.nil _ _
  · exact basisL_tab hp _ (outL_tab hp ha (by omega) _)
theorem comL_tab {p : Int} (hp : 2 ≤ p) (n : Nat) (a b : List (List Int)) : Tab p n (comL p n a b) := kernL_tab hp _ _
theorem comL_sp {p : Int} (hP : isP p = true) {n : Nat} {a b : List (List Int)} (ha : Tab p n a) (hb : Tab p n b) {v : Nat → Int} : Sp p n (comL p n a b) v ↔ Sp p n a v ∧ Sp p n b v := by
  have hp : 2 ≤ p := by have := isP_ge hP; omega
  unfold comL
  rw [kernL_sp hP ((kernL_tab hp a n).append (kernL_tab hp b n)), Orth.append, kernL_orth hP ha, kernL_orth hP hb]
theorem take_getD {α : Type} (d : α) (z : List α) {k i : Nat} (h : i < k) : (z.take k).getD i d = z.getD i d := by
  by_cases hz : i < z.length
  · rw [getD_of_lt d (by rw [List.length_take]; omega), getD_of_lt d hz, List.getElem_take]
  · rw [getD_of_ge d (by rw [List.length_take]; omega), getD_of_ge d (by omega)]
theorem outL_sp {p : Int} (hP : isP p = true) {n : Nat} {a b : List (List Int)} (ha : Tab p n a) (hb : Tab p n b) (h0 : 0 < a.length) {v : Nat → Int} : Sp p n (outL p a (kernL p (transL (a ++ b)) (a.length + b.length))) v ↔ Sp p n a v ∧ Sp p n b v := by
  have hp : 2 ≤ p := by have := isP_ge hP; omega
  have hab := ha.append hb
  have hl : (a ++ b).length = a.length + b.length := List.length_append
  have h0' : 0 < (a ++ b).length := by omega
  have hTT := transL_tab (p := p) (by omega) hab
  rw [hl] at hTT
  have e1 : ∀ i q, i < a.length → ent (a ++ b) i q = ent a i q := fun i q hi => by unfold ent; rw [getD_app_left [] _ hi]
  have e2 : ∀ i q, ent (a ++ b) (a.length + i) q = ent b i q := fun i q => by unfold ent; rw [getD_app_right]
  have split : ∀ (z : Nat → Int) (q : Nat) k, sumTo (a.length + k) (fun i => ent (a ++ b) i q * z i) = sumTo a.length (fun i => ent a i q * z i) + sumTo k (fun i => ent b i q * z (a.length + i)) := by
    intro z q k
    induction k with
    | zero => exact (sumTo_congr fun i hi => by rw [e1 i q hi]).trans (by simp [sumTo])
    | succ k ih => rw [← Nat.add_assoc, sumTo_succ, ih, sumTo_succ, e2]; omega
  have horth : ∀ z : Nat → Int, Orth p (a.length + b.length) (transL (a ++ b)) z ↔ ∀ q, q < n → (sumTo a.length (fun i => ent a i q * z i) + sumTo b.length (fun i => ent b i q * z (a.length + i))) % p = 0 := by
    intro z
    unfold Orth
    rw [transL_len hab h0']
    refine forall_congr' fun q => forall_congr' fun hq => ?_
    have : (sumTo (a.length + b.length) fun i => ent (transL (a ++ b)) q i * z i) = sumTo (a.length + b.length) fun i => ent (a ++ b) i q * z i := sumTo_congr fun i hi => by
      show ((transL (a ++ b)).getD q []).getD i 0 * _ = _
      rw [transL_row hab h0' hq, tab_getD (by omega)]
    rw [this, split]
  constructor
  · intro h
    have hr : ∀ x ∈ outL p a (kernL p (transL (a ++ b)) (a.length + b.length)), Sp p n a (fun q => x.getD q 0) ∧ Sp p n b (fun q => x.getD q 0) := fun x hx => by
      obtain ⟨z, hz, rfl⟩ := List.mem_map.1 hx
      have hk := (horth _).1 ((kernL_sp hP hTT).1 (Sp.mem hz))
      have hat : ∀ q, q < n → (applyL p (transL a) (z.take a.length)).getD q 0 % p = (sumTo a.length fun i => ent a i q * z.getD i 0) % p := fun q hq => by
        rw [apply_at ha h0 _ hq, cg_self]
        congr 1
        exact sumTo_congr fun i hi => by rw [take_getD 0 z hi]
      refine ⟨⟨fun i => z.getD i 0, fun q hq => ?_⟩, ⟨fun i => -(z.getD (a.length + i) 0), fun q hq => ?_⟩⟩
      · rw [hat q hq]; congr 1; exact sumTo_congr fun i _ => Int.mul_comm _ _
      · rw [hat q hq, sumTo_congr (f := fun i => -(z.getD (a.length + i) 0) * ent b i q) (g := fun i => (-1) * (ent b i q * z.getD (a.length + i) 0)) fun i _ => by rw [Int.neg_mul, Int.neg_mul, Int.one_mul, Int.mul_comm], sumTo_mul]
        have h1 := hk q hq
        obtain ⟨S, hS⟩ : ∃ S, S = sumTo a.length fun i => ent a i q * z.getD i 0 := ⟨_, rfl⟩
        obtain ⟨T, hT⟩ : ∃ T, T = sumTo b.length fun i => ent b i q * z.getD (a.length + i) 0 := ⟨_, rfl⟩
        rw [← hS, ← hT] at h1
        rw [← hS, ← hT]
        have := cg_add (h1.trans (Int.zero_emod p).symm) (show (-1 * T) % p = (-1 * T) % p from rfl)
        rw [Int.zero_add] at this
        rw [← this]; congr 1; omega
    exact ⟨(InSp.of_mem fun x hx => (hr x hx).1).sp h, (InSp.of_mem fun x hx => (hr x hx).2).sp h⟩
  · rintro ⟨⟨c, hc⟩, ⟨d, hd⟩⟩
    have hz : Orth p (a.length + b.length) (transL (a ++ b)) fun i => if i < a.length then c i else -(d (i - a.length)) := (horth _).2 fun q hq => by
      rw [sumTo_congr (f := fun i => ent a i q * _) (g := fun i => c i * ent a i q) fun i hi => by rw [if_pos hi, Int.mul_comm]]
      rw [sumTo_congr (f := fun i => ent b i q * _) (g := fun i => (-1) * (d i * ent b i q)) fun i hi => by rw [if_neg (by omega), show a.length + i - a.length = i by omega, Int.mul_neg, Int.neg_mul, Int.one_mul, Int.mul_comm], sumTo_mul]
      have h1 := (hc q hq).symm.trans (hd q hq)
      obtain ⟨S, hS⟩ : ∃ S, S = sumTo a.length fun i => c i * ent a i q := ⟨_, rfl⟩
      obtain ⟨T, hT⟩ : ∃ T, T = sumTo b.length fun i => d i * ent b i q := ⟨_, rfl⟩
      rw [← hS, ← hT] at h1
      rw [← hS, ← hT]
      have := cg_add h1 (show (-1 * T) % p = (-1 * T) % p from rfl)
      rw [this, Int.neg_mul, Int.one_mul, ← Int.sub_eq_add_neg, Int.sub_self]; rfl
    obtain ⟨e, he⟩ := (kernL_sp hP hTT).2 hz
    obtain ⟨K, hK⟩ : ∃ K, K = kernL p (transL (a ++ b)) (a.length + b.length) := ⟨_, rfl⟩
    rw [← hK] at he ⊢
    refine ⟨e, fun q hq => ?_⟩
    have hlen : (outL p a K).length = K.length := by unfold outL; rw [List.length_map]
    have hrow : ∀ k, k < K.length → ent (outL p a K) k q % p = (sumTo a.length fun i => ent a i q * ent K k i) % p := fun k hk => by
      have : (outL p a K).getD k [] = applyL p (transL a) ((K.getD k []).take a.length) := by
        rw [getD_of_lt [] (by omega), getD_of_lt [] hk]; unfold outL; rw [List.getElem_map]
      unfold ent
      rw [this, apply_at ha h0 _ hq, cg_self]
      congr 1
      exact sumTo_congr fun i hi => by rw [take_getD 0 _ hi]; rfl
    rw [hlen, sumTo_mod p (g := fun k => e k * sumTo a.length fun i => ent a i q * ent K k i) fun k hk => cg_mul rfl (hrow k hk)]
    rw [sumTo_congr (g := fun k => sumTo a.length fun i => ent a i q * (e k * ent K k i)) fun k _ => by
      rw [← sumTo_mul]; exact sumTo_congr fun i _ => by rw [← Int.mul_assoc, Int.mul_comm (e k), Int.mul_assoc], sumTo_comm]
    rw [hc q hq]
    refine sumTo_mod p fun i hi => ?_
    rw [sumTo_mul, Int.mul_comm (c i)]
    have := he i (by omega)
    simp only [if_pos hi] at this
    exact cg_mul rfl this
/-- Both ways tell the same. -/
theorem common_same {p : Int} (hP : isP p = true) {n : Nat} {a b : List (List Int)} (ha : Tab p n a) (hb : Tab p n b) : basisL p (commonL p a b) = basisL p (comL p n a b) := by
  have hp : 2 ≤ p := by have := isP_ge hP; omega
  refine basisL_same hP (commonL_tab (by omega) ha) (comL_tab hp n a b) ?_ ?_
  · unfold commonL
    split
    · exact fun i hi => absurd hi (by simp)
    · intro i hi
      have h := Sp.row (p := p) (n := n) hi
      exact (comL_sp hP ha hb).2 ((outL_sp hP ha hb (by omega)).1 ((basisL_in hP _ (outL_tab (p := p) (by omega) ha (by omega) _)).1.sp h))
  · intro i hi
    obtain ⟨h1, h2⟩ := (comL_sp hP ha hb).1 (Sp.row (p := p) (n := n) hi)
    unfold commonL
    split
    · rename_i hz
      refine (Sp.zero _ _ _).congr fun q hq => ?_
      rcases hz with hz | hz
      · obtain ⟨c, hc⟩ := h1
        have := hc q hq
        rw [hz] at this
        exact this.symm
      · obtain ⟨c, hc⟩ := h2
        have := hc q hq
        rw [hz] at this
        exact this.symm
    · exact (basisL_in hP _ (outL_tab (p := p) (by omega) ha (by omega) _)).2.sp ((outL_sp hP ha hb (by omega)).2 ⟨h1, h2⟩)
end Go.Proofs.YtggigolkncckoaaGreat
namespace Go.Proofs.YtggigolkncckoaaGreat
open Go.RowKit
/-- A function of lists of n numbers is linear, but for multiples of P. -/
def LinF (P : Int) (n : Nat) (F : List Int → Int) : Prop := ∀ v : List Int, v.length = n → NumsL P v → F v % P = (sumTo n fun k => F (unitRow n k) * v.getD k 0) % P
section
variable {P : Int} {n : Nat} {F G : List Int → Int}
theorem LinF.congr (hp : 2 ≤ P) (h : LinF P n F) (he : ∀ v : List Int, v.length = n → NumsL P v → G v % P = F v % P) : LinF P n G := fun v hv hn => by
  rw [he v hv hn, h v hv hn]
  refine sumTo_mod P fun k _ => ?_
  rw [Int.mul_emod, ← he _ (unitRow_len n k) (unitRow_nums hp n k), ← Int.mul_emod]
theorem LinF.mul (h : LinF P n F) (c : Int) : LinF P n (fun v => c * F v) := fun v hv hn => by
  show c * F v % P = _
  rw [Int.mul_emod, h v hv hn, ← Int.mul_emod, ← sumTo_mul]
  refine sumTo_mod P fun k _ => ?_
  rw [Int.mul_assoc]
theorem LinF.add (h : LinF P n F) (h' : LinF P n G) : LinF P n (fun v => F v + G v) := fun v hv hn => by
  show (F v + G v) % P = _
  rw [Int.add_emod, h v hv hn, h' v hv hn, ← Int.add_emod, ← sumTo_add]
  refine sumTo_mod P fun k _ => ?_
  rw [Int.add_mul]
theorem LinF.zero : LinF P n (fun _ => 0) := fun v _ _ => by
  show (0 : Int) % P = _
  rw [sumTo_zero fun k _ => by simp]
theorem LinF.sum {H : Nat → List Int → Int} : ∀ (N : Nat), (∀ a, a < N → LinF P n (H a)) → LinF P n (fun v => sumTo N fun a => H a v)
  | 0, _ => LinF.zero
  | N + 1, h => (LinF.sum N fun a ha => h a (by omega)).add (h N (by omega))
end
/-- Where a vector's numbers lie in its multivector. -/
theorem vecTo_getD {n : Nat} (v : List Int) {b : Nat} (hb : b < pw n) : ∀ k, k ≤ n → (vecTo n v k).getD b 0 = sumTo k fun i => if b = 2 ^ i then v.getD i 0 else 0 := by
  intro k
  induction k with
  | zero => intro _; simp [vecTo, sumTo, List.getD_eq_getElem?_getD, hb]
  | succ k ih =>
    intro hk
    rw [vecTo_succ, sumTo_succ, List.getD_eq_getElem?_getD, List.getElem?_set]
    have hl : 2 ^ k < (vecTo n v k).length := by rw [vecTo_len]; exact two_lt (by omega)
    by_cases h : b = 2 ^ k
    · rw [if_pos h.symm, if_pos hl, if_pos h]
      have h0 : (sumTo k fun i => if b = 2 ^ i then v.getD i 0 else 0) = 0 := sumTo_zero fun i hi => by
        rw [if_neg]
        intro e
        have : 2 ^ i < 2 ^ k := Nat.pow_lt_pow_right (by omega) hi
        omega
      rw [h0]
      simp
    · rw [if_neg (fun e => h e.symm), if_neg h, ← ih (by omega), Int.add_zero, List.getD_eq_getElem?_getD]
theorem unitRow_getD {n k i : Nat} (hi : i < n) : (unitRow n k).getD i 0 = if k = i then 1 else 0 := by
  unfold unitRow
  rw [List.getD_eq_getElem?_getD, List.getElem?_set]
  by_cases h : k = i
  · rw [if_pos h, if_pos (by simp; omega), if_pos h]; rfl
  · rw [if_neg h, if_neg h, List.getElem?_replicate, if_pos hi]; rfl
theorem LinF.vec {P : Int} {n b : Nat} (hb : b < pw n) : LinF P n (fun v => (vecTo n v n).getD b 0) := fun v _ _ => by
  show (vecTo n v n).getD b 0 % P = _
  rw [vecTo_getD v hb n (Nat.le_refl _)]
  refine sumTo_mod P fun k hk => ?_
  show _ = (vecTo n (unitRow n k) n).getD b 0 * v.getD k 0 % P
  rw [vecTo_getD _ hb n (Nat.le_refl _)]
  congr 1
  rw [sumTo_one k hk fun i hi hne => by
    split
    · rw [unitRow_getD hi, if_neg (fun e => hne e.symm)]
    · rfl]
  rw [unitRow_getD hk, if_pos rfl]
  split
  · simp
  · simp
end Go.Proofs.YtggigolkncckoaaGreat
namespace Go.Proofs.YtggigolkncckoaaGreat
theorem bit_eq (a i : Nat) : bit a i = (a.testBit i).toNat := by
  unfold bit
  rw [Nat.testBit_eq_decide_div_mod_eq]
  rcases Nat.mod_two_eq_zero_or_one (a / 2 ^ i) with h | h <;> rw [h] <;> rfl
theorem bit_le (a i : Nat) : bit a i < 2 := by unfold bit; exact Nat.mod_lt _ (by decide)
theorem bit_xor (a b i : Nat) : bit (a ^^^ b) i = (bit a i + bit b i) % 2 := by
  rw [bit_eq, bit_eq, bit_eq, Nat.testBit_xor]
  cases a.testBit i <;> cases b.testBit i <;> rfl
/-- The number of the first k bits. -/
def pcn (a : Nat) : Nat → Nat
  | 0 => 0
  | k + 1 => pcn a k + bit a k
theorem bit_half (a i : Nat) : bit (a / 2) i = bit a (i + 1) := by
  unfold bit
  rw [Nat.div_div_eq_div_mul, Nat.pow_succ, Nat.mul_comm]
theorem pcn_half (a : Nat) : ∀ k, pcn a (k + 1) = a % 2 + pcn (a / 2) k := by
  intro k
  induction k with
  | zero => simp [pcn, bit]
  | succ k ih =>
    rw [pcn, ih, pcn, bit_half, Nat.add_assoc]
theorem pc_pcn : ∀ (k a : Nat), a < 2 ^ k → pc a = pcn a k := by
  intro k
  induction k with
  | zero =>
    intro a h
    obtain rfl : a = 0 := by omega
    rw [pc_zero]; rfl
  | succ k ih =>
    intro a h
    rw [pc_rec, pcn_half, ih _ (by rw [Nat.pow_succ] at h; omega)]
theorem pcn_xor (a b : Nat) : ∀ k, pcn (a ^^^ b) k % 2 = (pcn a k + pcn b k) % 2 := by
  intro k
  induction k with
  | zero => rfl
  | succ k ih =>
    simp only [pcn]
    rw [bit_xor]
    omega
theorem pc_xor (a b : Nat) : pc (a ^^^ b) % 2 = (pc a + pc b) % 2 := by
  obtain ⟨k, ha, hb⟩ : ∃ k, a < 2 ^ k ∧ b < 2 ^ k :=
    ⟨a + b, Nat.lt_of_le_of_lt (Nat.le_add_right a b) Nat.lt_two_pow_self, Nat.lt_of_le_of_lt (Nat.le_add_left b a) Nat.lt_two_pow_self⟩
  rw [pc_pcn k _ (Nat.xor_lt_two_pow ha hb), pc_pcn k _ ha, pc_pcn k _ hb]
  exact pcn_xor a b k
theorem xor_div (a b k : Nat) : (a ^^^ b) / 2 ^ k = (a / 2 ^ k) ^^^ (b / 2 ^ k) := by
  rw [← Nat.shiftRight_eq_div_pow, ← Nat.shiftRight_eq_div_pow, ← Nat.shiftRight_eq_div_pow]
  exact Nat.shiftRight_xor_distrib
theorem swaps_left (a c b : Nat) : ∀ n, swaps (a ^^^ c) b n % 2 = (swaps a b n + swaps c b n) % 2 := by
  intro n
  induction n with
  | zero => rfl
  | succ n ih =>
    simp only [swaps]
    by_cases h : bit b n = 1
    · simp only [if_pos h]
      have := pc_xor (a / 2 ^ (n + 1)) (c / 2 ^ (n + 1))
      rw [xor_div]
      omega
    · simp only [if_neg h]; omega
theorem swaps_right (a b c : Nat) : ∀ n, swaps a (b ^^^ c) n % 2 = (swaps a b n + swaps a c n) % 2 := by
  intro n
  induction n with
  | zero => rfl
  | succ n ih =>
    simp only [swaps]
    rw [bit_xor]
    have h1 := bit_le b n
    have h2 := bit_le c n
    rcases (show bit b n = 0 ∨ bit b n = 1 by omega) with e1 | e1 <;> rcases (show bit c n = 0 ∨ bit c n = 1 by omega) with e2 | e2 <;> simp [e1, e2] <;> omega
/-- 1 or -1: the sign of a number of exchanges. -/
def sg (k : Nat) : Int := if k % 2 = 1 then -1 else 1
theorem sg_add (k l : Nat) : sg (k + l) = sg k * sg l := by
  unfold sg
  rcases Nat.mod_two_eq_zero_or_one k with h | h <;> rcases Nat.mod_two_eq_zero_or_one l with h' | h' <;> simp [Nat.add_mod, h, h']
theorem sg_congr {k l : Nat} (h : k % 2 = l % 2) : sg k = sg l := by unfold sg; rw [h]
theorem sg_two (k : Nat) : sg k * sg k = 1 := by
  unfold sg
  split <;> rfl
/-- The product of the first i squares that both masks have, as an integer. -/
def comZ (sq : List Int) (a b : Nat) : Nat → Int
  | 0 => 1
  | i + 1 => comZ sq a b i * (if bit b i = 1 ∧ bit a i = 1 then sq.getD i 0 else 1)
theorem common_comZ (p : Int) (sq : List Int) (a b : Nat) : ∀ i, common p sq a b i % p = comZ sq a b i % p := by
  intro i
  induction i with
  | zero => rfl
  | succ i ih =>
    simp only [common, comZ]
    split
    · rw [Int.emod_emod_of_dvd _ (Int.dvd_refl p), Int.mul_emod, ih, ← Int.mul_emod]
    · rw [Int.mul_one, ih]
theorem comZ_symm (sq : List Int) (a b : Nat) : ∀ i, comZ sq a b i = comZ sq b a i := by
  intro i
  induction i with
  | zero => rfl
  | succ i ih => simp only [comZ]; rw [ih]; congr 1; simp only [And.comm]
theorem comZ_cocycle (sq : List Int) (a b c : Nat) : ∀ i, comZ sq a b i * comZ sq (a ^^^ b) c i = comZ sq b c i * comZ sq a (b ^^^ c) i := by
  intro i
  induction i with
  | zero => rfl
  | succ i ih =>
    simp only [comZ]
    rw [bit_xor, bit_xor]
    have key : ∀ X Y Z W s t u v : Int, X * Y = Z * W → s * t = u * v → (X * s) * (Y * t) = (Z * u) * (W * v) := fun X Y Z W s t u v h1 h2 => by
      rw [show (X * s) * (Y * t) = (X * Y) * (s * t) by rw [Int.mul_assoc, Int.mul_left_comm s, ← Int.mul_assoc], h1, h2]
      rw [Int.mul_assoc, Int.mul_left_comm W, ← Int.mul_assoc]
    refine key _ _ _ _ _ _ _ _ ih ?_
    have h1 := bit_le a i
    have h2 := bit_le b i
    have h3 := bit_le c i
    rcases (show bit a i = 0 ∨ bit a i = 1 by omega) with e1 | e1 <;> rcases (show bit b i = 0 ∨ bit b i = 1 by omega) with e2 | e2 <;> rcases (show bit c i = 0 ∨ bit c i = 1 by omega) with e3 | e3 <;> simp [e1, e2, e3]
/-- The number by which the product of two blades is that of their different bits, as an integer. -/
def facZ (sq : List Int) (a b : Nat) : Int := sg (swaps a b sq.length) * comZ sq a b sq.length
theorem fac_facZ (p : Int) (sq : List Int) (a b : Nat) : fac p sq a b % p = facZ sq a b % p := by
  unfold fac facZ sg
  split
  · rw [Int.emod_emod_of_dvd _ (Int.dvd_refl p), Int.neg_mul, Int.one_mul, ← Int.zero_sub, ← Int.zero_sub, Int.sub_emod, common_comZ, ← Int.sub_emod]
  · rw [Int.one_mul, common_comZ]
theorem facZ_cocycle (sq : List Int) (a b c : Nat) : facZ sq a b * facZ sq (a ^^^ b) c = facZ sq b c * facZ sq a (b ^^^ c) := by
  unfold facZ
  have hs : sg (swaps a b sq.length) * sg (swaps (a ^^^ b) c sq.length) = sg (swaps b c sq.length) * sg (swaps a (b ^^^ c) sq.length) := by
    rw [← sg_add, ← sg_add]
    apply sg_congr
    have h1 := swaps_left a b c sq.length
    have h2 := swaps_right a b c sq.length
    omega
  have hc := comZ_cocycle sq a b c sq.length
  have key : ∀ X Y Z W s t u v : Int, X * Y = Z * W → s * t = u * v → (X * s) * (Y * t) = (Z * u) * (W * v) := fun X Y Z W s t u v h1 h2 => by
    rw [show (X * s) * (Y * t) = (X * Y) * (s * t) by rw [Int.mul_assoc, Int.mul_left_comm s, ← Int.mul_assoc], h1, h2]
    rw [Int.mul_assoc, Int.mul_left_comm W, ← Int.mul_assoc]
  exact key _ _ _ _ _ _ _ _ hs hc
theorem xor_self_left (a b : Nat) : a ^^^ (a ^^^ b) = b := by rw [← Nat.xor_assoc, Nat.xor_self, Nat.zero_xor]
theorem xor_self_right (a b : Nat) : (b ^^^ a) ^^^ a = b := by rw [Nat.xor_assoc, Nat.xor_self, Nat.xor_zero]
theorem sumTo_xor {n : Nat} (f : Nat → Int) {c : Nat} (hc : c < pw n) : sumTo (pw n) f = sumTo (pw n) fun a => f (a ^^^ c) := by
  have h : ∀ b, b < pw n → f b = sumTo (pw n) fun a => if a ^^^ c = b then f b else 0 := fun b hb => by
    rw [sumTo_one (b ^^^ c) (xor_lt hb hc) fun i _ hne => if_neg fun e => hne (by rw [← e, xor_self_right]), if_pos (xor_self_right c b)]
  rw [sumTo_congr h, sumTo_comm]
  refine sumTo_congr fun a ha => ?_
  rw [sumTo_one (a ^^^ c) (xor_lt ha hc) fun i _ hne => if_neg fun e => hne e.symm, if_pos rfl]
theorem sumTo_mul_right (n : Nat) (f : Nat → Int) (c : Int) : sumTo n (fun i => f i * c) = sumTo n f * c := by
  rw [Int.mul_comm, ← sumTo_mul]
  exact sumTo_congr fun i _ => Int.mul_comm _ _
/-- The product of multivectors over the integers, at place m. -/
def mulZ (sq : List Int) (x y : Nat → Int) (m : Nat) : Int := sumTo (pw sq.length) fun a => x a * y (a ^^^ m) * facZ sq a (a ^^^ m)
theorem mulZ_assoc (sq : List Int) (x y z : Nat → Int) {m : Nat} (hm : m < pw sq.length) : mulZ sq (mulZ sq x y) z m = mulZ sq x (mulZ sq y z) m := by
  unfold mulZ
  rw [sumTo_congr (g := fun c => sumTo (pw sq.length) fun a => x a * y (a ^^^ c) * facZ sq a (a ^^^ c) * (z (c ^^^ m) * facZ sq c (c ^^^ m))) fun c _ => by
    rw [sumTo_mul_right, Int.mul_assoc], sumTo_comm]
  refine sumTo_congr fun a ha => ?_
  rw [sumTo_xor _ ha, ← sumTo_mul, ← sumTo_mul_right]
  refine sumTo_congr fun b hb => ?_
  have e1 : a ^^^ (b ^^^ a) = b := by rw [Nat.xor_comm b, xor_self_left]
  have e2 : (b ^^^ a) ^^^ m = b ^^^ (a ^^^ m) := Nat.xor_assoc _ _ _
  rw [e1, e2]
  have h := facZ_cocycle sq a b (b ^^^ (a ^^^ m))
  rw [xor_self_left, Nat.xor_comm a b] at h
  calc x a * y b * facZ sq a b * (z (b ^^^ (a ^^^ m)) * facZ sq (b ^^^ a) (b ^^^ (a ^^^ m)))
      = x a * y b * z (b ^^^ (a ^^^ m)) * (facZ sq a b * facZ sq (b ^^^ a) (b ^^^ (a ^^^ m))) := by
        rw [Int.mul_assoc (x a * y b), Int.mul_left_comm (facZ sq a b), ← Int.mul_assoc]
    _ = x a * y b * z (b ^^^ (a ^^^ m)) * (facZ sq b (b ^^^ (a ^^^ m)) * facZ sq a (a ^^^ m)) := by rw [h]
    _ = _ := by
        rw [← Int.mul_assoc, Int.mul_assoc (x a), Int.mul_assoc (x a)]
theorem mulZ_cg (p : Int) (sq : List Int) {x x' y y' : Nat → Int} (hx : ∀ a, a < pw sq.length → x a % p = x' a % p) (hy : ∀ a, a < pw sq.length → y a % p = y' a % p) {m : Nat} (hm : m < pw sq.length) : mulZ sq x y m % p = mulZ sq x' y' m % p := by
  unfold mulZ
  refine sumTo_mod p fun a ha => ?_
  have h1 := hx a ha
  have h2 := hy _ (xor_lt ha hm)
  rw [Int.mul_emod, Int.mul_emod (x a), h1, h2, ← Int.mul_emod (x' a), ← Int.mul_emod]
structure Cl (p : Int) (sq : List Int) where
  l : List Int
  len : l.length = pw sq.length
  nums : NumsL p l
  pos : 0 < p
section
variable {p : Int} {sq : List Int}
/-- The number at a place. -/
def Cl.co (x : Cl p sq) (m : Nat) : Int := x.l.getD m 0
theorem Cl.ext {x y : Cl p sq} (h : x.l = y.l) : x = y := by
  cases x; cases y; cases h; rfl
theorem Cl.co_small (x : Cl p sq) (m : Nat) : 0 ≤ x.co m ∧ x.co m < p := x.nums.getD x.pos m
theorem Cl.co_mod (x : Cl p sq) (m : Nat) : x.co m % p = x.co m := Int.emod_eq_of_lt (x.co_small m).1 (x.co_small m).2
theorem Cl.same {x y : Cl p sq} (h : ∀ m, m < pw sq.length → x.co m % p = y.co m % p) : x = y := by
  refine Cl.ext (list_ext_getD 0 (by rw [x.len, y.len]) fun m hm => ?_)
  have := h m (by rw [← x.len]; exact hm)
  rwa [x.co_mod, y.co_mod] at this
/-- The multivector with these numbers. -/
def Cl.of (hp : 0 < p) (f : Nat → Int) : Cl p sq := ⟨tab (pw sq.length) fun m => f m % p, tab_len _ _, NumsL.tab fun _ _ => ⟨Int.emod_nonneg _ (by omega), Int.emod_lt_of_pos _ hp⟩, hp⟩
theorem Cl.of_co (hp : 0 < p) (f : Nat → Int) {m : Nat} (hm : m < pw sq.length) : (Cl.of hp f : Cl p sq).co m = f m % p := tab_getD hm 0
theorem Cl.of_cg (hp : 0 < p) (f : Nat → Int) {m : Nat} (hm : m < pw sq.length) : (Cl.of hp f : Cl p sq).co m % p = f m % p := by rw [Cl.of_co hp f hm, Int.emod_emod_of_dvd _ (Int.dvd_refl p)]
instance : Mul (Cl p sq) := ⟨fun x y => Cl.of x.pos (mulZ sq x.co y.co)⟩
instance : Add (Cl p sq) := ⟨fun x y => Cl.of x.pos fun m => x.co m + y.co m⟩
instance : Neg (Cl p sq) := ⟨fun x => Cl.of x.pos fun m => -(x.co m)⟩
instance : HMul Int (Cl p sq) (Cl p sq) := ⟨fun k x => Cl.of x.pos fun m => k * x.co m⟩
theorem Cl.mul_co (x y : Cl p sq) {m : Nat} (hm : m < pw sq.length) : (x * y).co m % p = mulZ sq x.co y.co m % p := Cl.of_cg _ _ hm
theorem Cl.add_co (x y : Cl p sq) {m : Nat} (hm : m < pw sq.length) : (x + y).co m % p = (x.co m + y.co m) % p := Cl.of_cg _ _ hm
theorem Cl.neg_co (x : Cl p sq) {m : Nat} (hm : m < pw sq.length) : (-x).co m % p = (-(x.co m)) % p := Cl.of_cg _ _ hm
theorem Cl.sm_co (k : Int) (x : Cl p sq) {m : Nat} (hm : m < pw sq.length) : (k * x).co m % p = (k * x.co m) % p := Cl.of_cg _ _ hm
theorem Cl.mul_assoc (x y z : Cl p sq) : x * y * z = x * (y * z) := Cl.same fun m hm => by
  rw [Cl.mul_co _ _ hm, Cl.mul_co _ _ hm, mulZ_cg p sq (fun a ha => Cl.mul_co x y ha) (fun _ _ => rfl) hm, mulZ_assoc sq _ _ _ hm]
  exact mulZ_cg p sq (fun _ _ => rfl) (fun a ha => (Cl.mul_co y z ha).symm) hm
theorem Cl.add_mul (x y z : Cl p sq) : (x + y) * z = x * z + y * z := Cl.same fun m hm => by
  rw [Cl.mul_co _ _ hm, mulZ_cg p sq (fun a ha => Cl.add_co x y ha) (fun _ _ => rfl) hm, Cl.add_co _ _ hm, Int.add_emod, Cl.mul_co _ _ hm, Cl.mul_co _ _ hm, ← Int.add_emod]
  unfold mulZ
  rw [← sumTo_add]
  congr 1
  exact sumTo_congr fun a _ => by rw [Int.add_mul, Int.add_mul]
theorem Cl.mul_add (x y z : Cl p sq) : x * (y + z) = x * y + x * z := Cl.same fun m hm => by
  rw [Cl.mul_co _ _ hm, mulZ_cg p sq (fun _ _ => rfl) (fun a ha => Cl.add_co y z ha) hm, Cl.add_co _ _ hm, Int.add_emod, Cl.mul_co _ _ hm, Cl.mul_co _ _ hm, ← Int.add_emod]
  unfold mulZ
  rw [← sumTo_add]
  congr 1
  exact sumTo_congr fun a _ => by rw [Int.mul_add, Int.add_mul]
theorem Cl.sm_mul (k : Int) (x y : Cl p sq) : (k * x) * y = k * (x * y) := Cl.same fun m hm => by
  rw [Cl.mul_co _ _ hm, mulZ_cg p sq (fun a ha => Cl.sm_co k x ha) (fun _ _ => rfl) hm, Cl.sm_co _ _ hm, Int.mul_emod k, Cl.mul_co _ _ hm, ← Int.mul_emod]
  unfold mulZ
  rw [← sumTo_mul]
  congr 1
  exact sumTo_congr fun a _ => by rw [Int.mul_assoc, Int.mul_assoc, Int.mul_assoc]
theorem Cl.mul_sm (k : Int) (x y : Cl p sq) : x * (k * y) = k * (x * y) := Cl.same fun m hm => by
  rw [Cl.mul_co _ _ hm, mulZ_cg p sq (fun _ _ => rfl) (fun a ha => Cl.sm_co k y ha) hm, Cl.sm_co _ _ hm, Int.mul_emod k, Cl.mul_co _ _ hm, ← Int.mul_emod]
  unfold mulZ
  rw [← sumTo_mul]
  congr 1
  exact sumTo_congr fun a _ => by rw [Int.mul_left_comm, Int.mul_assoc, Int.mul_assoc]
theorem Cl.add_comm (x y : Cl p sq) : x + y = y + x := Cl.same fun m hm => by rw [Cl.add_co _ _ hm, Cl.add_co _ _ hm, Int.add_comm]
theorem Cl.add_assoc (x y z : Cl p sq) : x + y + z = x + (y + z) := Cl.same fun m hm => by
  rw [Cl.add_co _ _ hm, Cl.add_co _ _ hm, Int.add_emod, Cl.add_co _ _ hm, ← Int.add_emod, Int.add_emod (x.co m), Cl.add_co _ _ hm, ← Int.add_emod, Int.add_assoc]
theorem Cl.sm_sm (k j : Int) (x : Cl p sq) : k * (j * x) = (k * j) * x := Cl.same fun m hm => by
  rw [Cl.sm_co _ _ hm, Int.mul_emod, Cl.sm_co _ _ hm, ← Int.mul_emod, Cl.sm_co _ _ hm, Int.mul_assoc]
theorem Cl.add_sm (k j : Int) (x : Cl p sq) : (k + j) * x = k * x + j * x := Cl.same fun m hm => by
  rw [Cl.sm_co _ _ hm, Cl.add_co _ _ hm, Int.add_emod, Cl.sm_co _ _ hm, Cl.sm_co _ _ hm, ← Int.add_emod, Int.add_mul]
theorem Cl.sm_cg {k j : Int} (h : k % p = j % p) (x : Cl p sq) : k * x = j * x := Cl.same fun m hm => by
  rw [Cl.sm_co _ _ hm, Cl.sm_co _ _ hm, Int.mul_emod, h, ← Int.mul_emod]
theorem Cl.neg_sm (x : Cl p sq) : -x = (-1 : Int) * x := Cl.same fun m hm => by rw [Cl.neg_co _ hm, Cl.sm_co _ _ hm, Int.neg_mul, Int.one_mul]
theorem Cl.one_sm (x : Cl p sq) : (1 : Int) * x = x := Cl.same fun m hm => by rw [Cl.sm_co _ _ hm, Int.one_mul]
/-- The numbers of a list, and no more than there are places. -/
def Cl.zero (hp : 0 < p) : Cl p sq := Cl.of hp fun _ => 0
theorem Cl.zero_sm (x : Cl p sq) : (0 : Int) * x = Cl.zero x.pos := Cl.same fun m hm => by
  rw [Cl.sm_co _ _ hm]; unfold Cl.zero; rw [Cl.of_cg _ _ hm, Int.zero_mul]
theorem Cl.add_zero (x : Cl p sq) (hp : 0 < p) : x + Cl.zero hp = x := Cl.same fun m hm => by
  rw [Cl.add_co _ _ hm, Int.add_emod]; unfold Cl.zero; rw [Cl.of_cg _ _ hm, ← Int.add_emod, Int.add_zero]
/-- The multivector 1. -/
def Cl.one (hp : 0 < p) : Cl p sq := Cl.of hp fun m => if m = 0 then 1 else 0
theorem Cl.one_co (hp : 0 < p) {m : Nat} (hm : m < pw sq.length) : (Cl.one hp : Cl p sq).co m % p = (if m = 0 then 1 else 0) % p := Cl.of_cg _ _ hm
theorem swaps_zero_right (a : Nat) : ∀ n, swaps a 0 n = 0 := by
  intro n
  induction n with
  | zero => rfl
  | succ n ih => simp [swaps, ih, bit_zero]
theorem swaps_zero_left (b : Nat) : ∀ n, swaps 0 b n = 0 := by
  intro n
  induction n with
  | zero => rfl
  | succ n ih => simp [swaps, ih, pc_zero]
theorem comZ_zero_left (sq : List Int) (b : Nat) : ∀ n, comZ sq 0 b n = 1 := by
  intro n
  induction n with
  | zero => rfl
  | succ n ih => simp [comZ, ih, bit_zero]
theorem facZ_zero_left (sq : List Int) (b : Nat) : facZ sq 0 b = 1 := by unfold facZ; rw [swaps_zero_left, comZ_zero_left]; rfl
theorem facZ_zero_right (sq : List Int) (a : Nat) : facZ sq a 0 = 1 := by unfold facZ; rw [swaps_zero_right, comZ_symm, comZ_zero_left]; rfl
theorem mulZ_one_left (sq : List Int) (x : Nat → Int) (m : Nat) : mulZ sq (fun m => if m = 0 then 1 else 0) x m = x m := by
  unfold mulZ
  rw [sumTo_one 0 (pw_pos _) fun i _ h => by dsimp only; rw [if_neg h, Int.zero_mul, Int.zero_mul]]
  dsimp only
  rw [if_pos rfl, Nat.zero_xor, facZ_zero_left, Int.one_mul, Int.mul_one]
theorem mulZ_one_right (sq : List Int) (x : Nat → Int) {m : Nat} (hm : m < pw sq.length) : mulZ sq x (fun m => if m = 0 then 1 else 0) m = x m := by
  unfold mulZ
  rw [sumTo_one m hm fun i _ h => by dsimp only; rw [if_neg (fun e => h (by have := (xor_eq_iff i m 0).1 e; rw [this, Nat.xor_zero])), Int.mul_zero, Int.zero_mul]]
  dsimp only
  rw [Nat.xor_self, if_pos rfl, facZ_zero_right, Int.mul_one, Int.mul_one]
theorem Cl.one_mul (hp : 0 < p) (x : Cl p sq) : Cl.one hp * x = x := Cl.same fun m hm => by
  rw [Cl.mul_co _ _ hm, mulZ_cg p sq (fun a ha => Cl.one_co hp ha) (fun _ _ => rfl) hm, mulZ_one_left]
theorem Cl.mul_one (hp : 0 < p) (x : Cl p sq) : x * Cl.one hp = x := Cl.same fun m hm => by
  rw [Cl.mul_co _ _ hm, mulZ_cg p sq (fun _ _ => rfl) (fun a ha => Cl.one_co hp ha) hm, mulZ_one_right sq _ hm]
theorem mulL_co {n : Nat} (hn : sq.length = n) {xs ys : List Int} (hx : xs.length = pw n) (hy : ys.length = pw n) {m : Nat} (hm : m < pw n) : (mulL p sq xs ys).getD m 0 % p = mulZ sq (fun a => xs.getD a 0) (fun a => ys.getD a 0) m % p := by
  subst hn
  unfold mulL
  rw [prodL_getD p sq _ xs ys _ m hx hy hm, Int.emod_emod_of_dvd _ (Int.dvd_refl p)]
  unfold mulZ
  refine sumTo_mod p fun a _ => ?_
  unfold term
  rw [if_pos rfl, Int.mul_emod, fac_facZ, ← Int.mul_emod]
theorem Cl.mul_l (x y : Cl p sq) : (x * y).l = mulL p sq x.l y.l := by
  refine list_ext_getD 0 (by rw [(x * y).len, mulL_len, x.len]) fun m hm => ?_
  rw [(x * y).len] at hm
  have h1 := (x * y).co_mod m
  have h2 := Cl.mul_co x y hm
  have h3 := mulL_co (p := p) rfl x.len y.len hm
  have h4 := (mulL_nums x.pos sq x.l y.l).getD x.pos m
  rw [Int.emod_eq_of_lt h4.1 h4.2] at h3
  rw [h3]
  rw [h1] at h2
  exact h2
theorem Cl.one_l (hp : 2 ≤ p) : (Cl.one (by omega) : Cl p sq).l = bladeL sq.length 0 := by
  refine list_ext_getD 0 (by rw [Cl.len, bladeL_len]) fun m hm => ?_
  rw [Cl.len] at hm
  rw [bladeL_getD _ _ _ hm]
  show (Cl.one _ : Cl p sq).co m = _
  unfold Cl.one
  rw [Cl.of_co _ _ hm]
  by_cases h : m = 0
  · rw [if_pos h, if_pos h.symm, Int.emod_eq_of_lt (by omega) (by omega)]
  · rw [if_neg h, if_neg (fun e => h e.symm), Int.zero_emod]
end
end Go.Proofs.YtggigolkncckoaaGreat
namespace Go.Proofs.YtggigolkncckoaaGreat
theorem bit_high {b n i : Nat} (hb : b < 2 ^ n) (h : n ≤ i) : bit b i = 0 := by
  unfold bit
  rw [Nat.div_eq_of_lt (Nat.lt_of_lt_of_le hb (Nat.pow_le_pow_right (by decide) h))]
section
variable {p : Int} {sq : List Int}
def Cl.vec (hp : 0 < p) (v : List Int) : Cl p sq := Cl.of hp fun b => sumTo sq.length fun i => if b = 2 ^ i then v.getD i 0 else 0
theorem Cl.vec_co (hp : 0 < p) (v : List Int) {m : Nat} (hm : m < pw sq.length) : (Cl.vec hp v : Cl p sq).co m % p = (sumTo sq.length fun i => if m = 2 ^ i then v.getD i 0 else 0) % p := Cl.of_cg _ _ hm
theorem Cl.vec_l (hp : 0 < p) {v : List Int} (hv : NumsL p v) : (Cl.vec hp v : Cl p sq).l = vecTo sq.length v sq.length := by
  refine list_ext_getD 0 (by rw [Cl.len, vecTo_len]) fun m hm => ?_
  rw [Cl.len] at hm
  rw [vecTo_getD _ hm _ (Nat.le_refl _)]
  show (Cl.vec _ _ : Cl p sq).co m = _
  rw [← Cl.co_mod, Cl.vec_co hp v hm, ← vecTo_getD v hm _ (Nat.le_refl _)]
  have := (vecTo_nums hp sq.length v hv sq.length).getD hp m
  exact Int.emod_eq_of_lt this.1 this.2
theorem pow_inj {i j : Nat} (h : (2 : Nat) ^ i = 2 ^ j) : i = j := (Nat.pow_right_inj (by decide)).1 h
theorem bit_pow (i j : Nat) : bit (2 ^ i) j = if i = j then 1 else 0 := by
  rw [bit_eq, Nat.testBit_two_pow]
  by_cases h : i = j <;> simp [h]
theorem pc_pow (i : Nat) : pc (2 ^ i) = 1 := by
  rw [pc_pcn (i + 1) _ (Nat.pow_lt_pow_right (by decide) (by omega)), pcn, bit_pow, if_pos rfl]
  have : ∀ k, k ≤ i → pcn (2 ^ i) k = 0 := by
    intro k
    induction k with
    | zero => intro _; rfl
    | succ k ih => intro hk; rw [pcn, ih (by omega), bit_pow, if_neg (by omega)]
  rw [this i (Nat.le_refl _)]
theorem swaps_pow (a j : Nat) : ∀ k, swaps a (2 ^ j) k = if j < k then pc (a / 2 ^ (j + 1)) else 0 := by
  intro k
  induction k with
  | zero => rfl
  | succ k ih =>
    simp only [swaps]
    rw [ih, bit_pow]
    by_cases h1 : j = k
    · subst h1; simp
    · by_cases h2 : j < k
      · simp [h1, h2, show j < k + 1 by omega]
      · simp [h1, h2, show ¬ j < k + 1 by omega]
theorem comZ_pow (sq : List Int) (i j : Nat) : ∀ k, comZ sq (2 ^ i) (2 ^ j) k = if i = j ∧ i < k then sq.getD i 0 else 1 := by
  intro k
  induction k with
  | zero => simp [comZ]
  | succ k ih =>
    simp only [comZ]
    rw [ih, bit_pow, bit_pow]
    by_cases h : i = j
    · subst h
      by_cases h1 : i = k
      · subst h1; simp
      · by_cases h2 : i < k
        · simp [h1, h2, show i < k + 1 by omega]
        · simp [h1, h2, show ¬ i < k + 1 by omega]
    · simp only [h, false_and, if_false]
      rw [if_neg, Int.mul_one]
      rintro ⟨h1, h2⟩
      split at h1
      · split at h2
        · omega
        · cases h2
      · cases h1
theorem facZ_same (sq : List Int) {i : Nat} (hi : i < sq.length) : facZ sq (2 ^ i) (2 ^ i) = sq.getD i 0 := by
  unfold facZ
  rw [swaps_pow, if_pos hi, comZ_pow, if_pos ⟨rfl, hi⟩, Nat.div_eq_of_lt (Nat.pow_lt_pow_right (by decide) (by omega)), pc_zero]
  show 1 * _ = _
  rw [Int.one_mul]
theorem facZ_less (sq : List Int) {i j : Nat} (h : i < j) (hj : j < sq.length) : facZ sq (2 ^ i) (2 ^ j) = 1 ∧ facZ sq (2 ^ j) (2 ^ i) = -1 := by
  unfold facZ
  rw [swaps_pow, if_pos hj, comZ_pow, if_neg (by omega), swaps_pow, if_pos (by omega), comZ_pow, if_neg (by omega), Nat.div_eq_of_lt (Nat.pow_lt_pow_right (by decide) (by omega)), pc_zero]
  refine ⟨rfl, ?_⟩
  rw [Nat.pow_div (by omega) (by decide), pc_pow]
  rfl
theorem facZ_both (sq : List Int) {i j : Nat} (hi : i < sq.length) (hj : j < sq.length) : facZ sq (2 ^ i) (2 ^ j) + facZ sq (2 ^ j) (2 ^ i) = if i = j then 2 * sq.getD i 0 else 0 := by
  rcases Nat.lt_trichotomy i j with h | h | h
  · rw [(facZ_less sq h hj).1, (facZ_less sq h hj).2, if_neg (by omega)]; rfl
  · subst h; rw [facZ_same sq hi, if_pos rfl]; omega
  · rw [(facZ_less sq h hi).1, (facZ_less sq h hi).2, if_neg (by omega)]; rfl
/-- The product of two vectors, over the integers. -/
def bil (sq v u : List Int) : Int := sumTo sq.length fun i => v.getD i 0 * u.getD i 0 * sq.getD i 0
theorem bil_symm (sq v u : List Int) : bil sq v u = bil sq u v := sumTo_congr fun i _ => by rw [Int.mul_comm (v.getD i 0)]
/-- The product of vectors, at a place. -/
theorem mulZ_vec (sq u v : List Int) {m : Nat} (hm : m < pw sq.length) :
    mulZ sq (fun b => sumTo sq.length fun i => if b = 2 ^ i then u.getD i 0 else 0) (fun b => sumTo sq.length fun i => if b = 2 ^ i then v.getD i 0 else 0) m
      = sumTo sq.length fun i => sumTo sq.length fun j => if 2 ^ i ^^^ 2 ^ j = m then u.getD i 0 * v.getD j 0 * facZ sq (2 ^ i) (2 ^ j) else 0 := by
  unfold mulZ
  rw [sumTo_congr (g := fun a => sumTo sq.length fun i => if a = 2 ^ i then sumTo sq.length fun j => if 2 ^ i ^^^ 2 ^ j = m then u.getD i 0 * v.getD j 0 * facZ sq (2 ^ i) (2 ^ j) else 0 else 0) fun a ha => ?_, sumTo_comm]
  · refine sumTo_congr fun i hi => ?_
    rw [sumTo_one (2 ^ i) (two_lt hi) fun a _ hne => if_neg hne, if_pos rfl]
  · rw [← sumTo_mul_right, ← sumTo_mul_right]
    refine sumTo_congr fun i _ => ?_
    by_cases h : a = 2 ^ i
    · rw [if_pos h, if_pos h, ← sumTo_mul, ← sumTo_mul_right]
      refine sumTo_congr fun j _ => ?_
      by_cases h2 : 2 ^ i ^^^ 2 ^ j = m
      · rw [if_pos h2, h, if_pos ((xor_eq_iff _ _ _).1 h2).symm, ← (xor_eq_iff _ _ _).1 h2]
      · rw [if_neg h2, h, if_neg (fun e => h2 ((xor_eq_iff _ _ _).2 e.symm)), Int.mul_zero, Int.zero_mul]
    · rw [if_neg h, if_neg h, Int.zero_mul, Int.zero_mul]
/-- Vectors: the sum of both products is twice the number of the product. -/
theorem Cl.vec_anti (hp : 0 < p) (u v : List Int) : (Cl.vec hp u : Cl p sq) * Cl.vec hp v + Cl.vec hp v * Cl.vec hp u = (2 * bil sq u v) * Cl.one hp := Cl.same fun m hm => by
  rw [Cl.add_co _ _ hm, Int.add_emod, Cl.mul_co _ _ hm, Cl.mul_co _ _ hm, mulZ_cg p sq (fun a ha => Cl.vec_co hp u ha) (fun a ha => Cl.vec_co hp v ha) hm,
    mulZ_cg p sq (fun a ha => Cl.vec_co hp v ha) (fun a ha => Cl.vec_co hp u ha) hm, ← Int.add_emod, mulZ_vec sq u v hm, mulZ_vec sq v u hm, Cl.sm_co _ _ hm, Int.mul_emod (2 * _), Cl.one_co hp hm, ← Int.mul_emod]
  congr 1
  rw [sumTo_comm sq.length sq.length (fun i j => if 2 ^ i ^^^ 2 ^ j = m then v.getD i 0 * u.getD j 0 * facZ sq (2 ^ i) (2 ^ j) else 0), ← sumTo_add]
  unfold bil
  rw [← sumTo_mul, ← sumTo_mul_right]
  refine sumTo_congr fun i hi => ?_
  rw [← sumTo_add]
  have key : ∀ j, j < sq.length → ((if 2 ^ i ^^^ 2 ^ j = m then u.getD i 0 * v.getD j 0 * facZ sq (2 ^ i) (2 ^ j) else 0) + if 2 ^ j ^^^ 2 ^ i = m then v.getD j 0 * u.getD i 0 * facZ sq (2 ^ j) (2 ^ i) else 0) = if 2 ^ i ^^^ 2 ^ j = m then u.getD i 0 * v.getD j 0 * (if i = j then 2 * sq.getD i 0 else 0) else 0 := fun j hj => by
    rw [Nat.xor_comm (2 ^ j)]
    by_cases h : 2 ^ i ^^^ 2 ^ j = m
    · rw [if_pos h, if_pos h, if_pos h, Int.mul_comm (v.getD j 0), ← Int.mul_add, facZ_both sq hi hj]
    · rw [if_neg h, if_neg h, if_neg h]; rfl
  rw [sumTo_congr key, sumTo_one i hi fun j _ hne => by
    split
    · rw [if_neg (fun e => hne e.symm), Int.mul_zero]
    · rfl]
  rw [if_pos rfl, Nat.xor_self]
  by_cases h : m = 0
  · rw [if_pos h, if_pos h.symm, Int.mul_one, Int.mul_left_comm]
  · rw [if_neg h, if_neg (fun e => h e.symm), Int.mul_zero]
end
end Go.Proofs.YtggigolkncckoaaGreat
namespace Go.Proofs.YtggigolkncckoaaGreat
theorem half_ok {p : Int} (hP : isP p = true) : (p + 1) / 2 * 2 % p = 1 % p := by
  simp only [isP, Bool.or_eq_true, beq_iff_eq] at hP
  rcases hP with (((rfl | rfl) | rfl) | rfl) | rfl <;> decide
theorem inv_mod {p a : Int} (hP : isP p = true) (h : a % p ≠ 0) : a * invF p (a % p) % p = 1 := by
  have h3 := (isP_ge hP).1
  have h1 := Int.emod_nonneg a (show p ≠ 0 by omega)
  have h2 := Int.emod_lt_of_pos a (show 0 < p by omega)
  have hs := inv_spec hP (show 0 < a % p by omega) h2
  have := (hs.2.2 (invF p (a % p)) (by omega) hs.2.1).2 rfl
  rw [Int.mul_emod, Int.emod_emod_of_dvd _ (Int.dvd_refl p)] at this
  rw [Int.mul_emod]
  exact this
section
variable {p : Int} {sq : List Int}
theorem Cl.two (x : Cl p sq) : x + x = (2 : Int) * x := by
  have := Cl.add_sm 1 1 x
  rw [Cl.one_sm] at this
  exact this.symm
theorem Cl.half {x y : Cl p sq} (hP : isP p = true) (h : (2 : Int) * x = (2 : Int) * y) : x = y := by
  have e : ∀ z : Cl p sq, ((p + 1) / 2 : Int) * ((2 : Int) * z) = z := fun z => by rw [Cl.sm_sm, Cl.sm_cg (half_ok hP), Cl.one_sm]
  rw [← e x, h, e y]
theorem Cl.add_back (x y : Cl p sq) (k : Int) : x + k * y + (-k) * y = x := by
  rw [Cl.add_assoc, ← Cl.add_sm, show k + -k = 0 by omega, Cl.zero_sm, Cl.add_zero]
theorem Cl.neg_mul (x y : Cl p sq) : (-x) * y = (-1 : Int) * (x * y) := by rw [Cl.neg_sm, Cl.sm_mul]
theorem Cl.vec_plus (hp : 0 < p) {a b : List Int} (ha : a.length = sq.length) (k : Int) : (Cl.vec hp (plusL p a b k) : Cl p sq) = Cl.vec hp a + k * Cl.vec hp b := Cl.same fun m hm => by
  rw [Cl.vec_co hp _ hm, Cl.add_co _ _ hm, Int.add_emod, Cl.vec_co hp _ hm, Cl.sm_co _ _ hm, Int.mul_emod, Cl.vec_co hp _ hm, ← Int.mul_emod, ← Int.add_emod, ← sumTo_mul, ← sumTo_add]
  refine sumTo_mod p fun i hi => ?_
  by_cases h : m = 2 ^ i
  · rw [if_pos h, if_pos h, if_pos h, plusL_getD _ _ (by omega), Int.emod_emod_of_dvd _ (Int.dvd_refl p)]
  · rw [if_neg h, if_neg h, if_neg h, Int.mul_zero]; rfl
theorem Cl.vec_sq (hp : 0 < p) (hP : isP p = true) (v : List Int) : (Cl.vec hp v : Cl p sq) * Cl.vec hp v = bil sq v v * Cl.one hp := by
  refine Cl.half hP ?_
  rw [← Cl.two, Cl.vec_anti, Cl.sm_sm]
theorem pairL_bil {v u : List Int} (hv : v.length = sq.length) : pairL p sq v u % p = bil sq v u % p := by
  rw [pairL_sum hv, Int.emod_emod_of_dvd _ (Int.dvd_refl p)]
  unfold bil
  refine sumTo_mod p fun i _ => ?_
  rw [Int.mul_emod, Int.emod_emod_of_dvd _ (Int.dvd_refl p), ← Int.mul_emod]
/-- Products of vectors. -/
def Cl.prod (hp : 0 < p) (vs : List (List Int)) : Cl p sq := vs.foldl (fun x v => x * Cl.vec hp v) (Cl.one hp)
theorem Cl.prod_from (hp : 0 < p) (vs : List (List Int)) : ∀ y : Cl p sq, vs.foldl (fun x v => x * Cl.vec hp v) y = y * Cl.prod hp vs := by
  induction vs with
  | nil => intro y; exact (Cl.mul_one hp y).symm
  | cons v vs ih =>
    intro y
    unfold Cl.prod
    rw [List.foldl_cons, ih, List.foldl_cons, ih, Cl.one_mul, Cl.mul_assoc]
theorem Cl.prod_cons (hp : 0 < p) (v : List Int) (vs : List (List Int)) : (Cl.prod hp (v :: vs) : Cl p sq) = Cl.vec hp v * Cl.prod hp vs := by
  have := Cl.prod_from hp vs (Cl.vec hp v : Cl p sq)
  rw [← this]
  unfold Cl.prod
  rw [List.foldl_cons, Cl.one_mul]
theorem Cl.prod_snoc (hp : 0 < p) (v : List Int) (vs : List (List Int)) : (Cl.prod hp (vs ++ [v]) : Cl p sq) = Cl.prod hp vs * Cl.vec hp v := by
  unfold Cl.prod
  rw [List.foldl_append]; rfl
end
end Go.Proofs.YtggigolkncckoaaGreat
namespace Go.Proofs.YtggigolkncckoaaGreat
section
variable {p : Int} {sq : List Int}
theorem mul_ne {p : Int} (hP : isP p = true) {a b : Int} (ha : a % p ≠ 0) (hb : b % p ≠ 0) : a * b % p ≠ 0 := fun h => by
  have h3 := (isP_ge hP).1
  rw [Int.mul_emod] at h
  rcases mul_zero_mod hP (emod_small a p (by omega)) (emod_small b p (by omega)) h with h | h
  · exact ha h
  · exact hb h
/-- A vector is a sum of multiples of unit vectors. -/
def Cl.sum (hp : 0 < p) : Nat → (Nat → Cl p sq) → Cl p sq
  | 0, _ => Cl.zero hp
  | n + 1, f => Cl.sum hp n f + f n
theorem Cl.zero_co (hp : 0 < p) {m : Nat} (hm : m < pw sq.length) : (Cl.zero hp : Cl p sq).co m % p = 0 := by
  unfold Cl.zero; rw [Cl.of_cg _ _ hm, Int.zero_emod]
theorem Cl.sum_co (hp : 0 < p) (f : Nat → Cl p sq) {m : Nat} (hm : m < pw sq.length) : ∀ n, (Cl.sum hp n f).co m % p = (sumTo n fun i => (f i).co m) % p := by
  intro n
  induction n with
  | zero => rw [show Cl.sum hp 0 f = Cl.zero hp from rfl, Cl.zero_co hp hm]; rfl
  | succ n ih =>
    rw [show Cl.sum hp (n + 1) f = Cl.sum hp n f + f n from rfl, Cl.add_co _ _ hm, Int.add_emod, ih, ← Int.add_emod, sumTo_succ]
theorem Cl.zero_mul (hp : 0 < p) (x : Cl p sq) : Cl.zero hp * x = Cl.zero hp := by
  have := Cl.zero_sm (x := (Cl.one hp : Cl p sq))
  rw [← this, Cl.sm_mul, Cl.one_mul, Cl.zero_sm, Cl.zero_sm]
theorem Cl.mul_zero (hp : 0 < p) (x : Cl p sq) : x * Cl.zero hp = Cl.zero hp := by
  have := Cl.zero_sm (x := (Cl.one hp : Cl p sq))
  rw [← this, Cl.mul_sm, Cl.mul_one, Cl.zero_sm, Cl.zero_sm]
theorem Cl.vec_sum (hp : 0 < p) (w : List Int) : (Cl.vec hp w : Cl p sq) = Cl.sum hp sq.length fun i => w.getD i 0 * Cl.vec hp (unitRow sq.length i) := Cl.same fun m hm => by
  rw [Cl.vec_co hp w hm, Cl.sum_co hp _ hm]
  refine sumTo_mod p fun i hi => ?_
  rw [Cl.sm_co _ _ hm, Int.mul_emod, Cl.vec_co hp _ hm, ← Int.mul_emod, sumTo_one i hi fun j hj hne => by
    split
    · rw [unitRow_getD hj, if_neg fun e => hne e.symm]
    · rfl]
  rw [unitRow_getD hi, if_pos rfl]
  by_cases h : m = 2 ^ i
  · rw [if_pos h, if_pos h, Int.mul_one]
  · rw [if_neg h, if_neg h, Int.mul_zero]
end
end Go.Proofs.YtggigolkncckoaaGreat
namespace Go.Proofs.YtggigolkncckoaaGreat
open Go.RowKit
theorem pairL_small {P : Int} (hp : 2 ≤ P) (sq v u : List Int) : 0 ≤ pairL P sq v u ∧ pairL P sq v u < P := by
  unfold pairL dotL
  exact ⟨Int.emod_nonneg _ (by omega), Int.emod_lt_of_pos _ (by omega)⟩
end Go.Proofs.YtggigolkncckoaaGreat
namespace Go.Proofs.YtggigolkncckoaaGreat
open Go.RowKit
theorem isVe_mk {P : Int} {sq ys : List Int} (h1 : ys.length = sq.length) (h2 : NumsL P ys) : isVe P sq ys = true := by
  unfold isVe nums
  rw [h1, Bool.and_eq_true]
  refine ⟨by simp, List.all_eq_true.2 fun x hx => ?_⟩
  have := h2 x hx
  simp [inR]
  omega
end Go.Proofs.YtggigolkncckoaaGreat
namespace Go.Proofs.YtggigolkncckoaaGreat
open Go.RowKit
set_option maxHeartbeats 1600000 in
theorem IsRegular_ok (P : Int) (A : Option Addr) (n c : Nat) (sq : List Int) (w : World) (hsp : isSp P sq = true) (hn : n ≤ 1048576) (ha : Rd w A n (ints sq)) :
    Calls Tryz.prog 35 #[.agg #[.int .i64 P, .slice A n c]] w fun e w' => e = .returned (.tuple #[.bool (regB sq), .int .i64 0]) ∧ Below w.heap.size w w' := by
  have hB0 : Below w.heap.size w (w.alloc (.cells #[.int .i64 P, .slice A n c] 26)) := (Below.refl _ _).alloc (Nat.le_refl _) _
  have k0 : Blk (w.alloc (.cells #[.int .i64 P, .slice A n c] 26)) w.heap.size 26 #[.int .i64 P, .slice A n c] := Blk.new _ _ _
  have his := IsSpace_any P A n c sq (w.alloc (.cells #[.int .i64 P, .slice A n c] 26)) (by omega) (ha.below hB0)
  rw [hsp] at his
  have hrg := fun w' (h : Below w.heap.size w w') => regular_any P A n c sq w' hn (ha.below h)
  obtain ⟨rb, hrb⟩ : ∃ b, b = regB sq := ⟨_, rfl⟩
  rw [← hrb] at hrg ⊢
  obtain ⟨q0, q1⟩ := k0.two
  clear hrb hsp
  go_enter Tryz.func35, Tryz.ntmps35
  go_wp2_with fail
  refine his.mono ?_
  rintro e w2 ⟨rfl, hb2⟩
  have hB2 := hB0.trans (hb2.mono hB0.size)
  have k2 := k0.below hb2 k0.lt
  clear q0 q1 his
  obtain ⟨q0, q1⟩ := k2.two
  go_wp2_with fail
  refine (hrg _ hB2).mono ?_
  rintro e w3 ⟨rfl, hb3⟩
  go_wp2
  go_ret2
  exact ⟨rfl, hB2.trans (hb3.mono hB2.size)⟩
end Go.Proofs.YtggigolkncckoaaGreat
namespace Go.Proofs.YtggigolkncckoaaGreat
open Go.RowKit
theorem RdII.nil (w : World) (A : Option Addr) : RdII w A 0 [] := ⟨[], Rd.nil w A, rfl, fun k h => absurd h (by simp)⟩
end Go.Proofs.YtggigolkncckoaaGreat
namespace Go.Proofs.YtggigolkncckoaaGreat
section
variable {P : Int} {sq xs ys : List Int}
end
theorem codeM_mk {P : Int} {sq : List Int} {ms : List (List Int)} (h1 : isSp P sq = true) (h : ∀ ys ∈ ms, ys.length = pw sq.length ∧ NumsL P ys) : codeM P sq ms = 0 := by
  unfold codeM
  rw [if_pos h1, if_neg]
  intro hh
  obtain ⟨ys, hy, e⟩ := List.any_eq_true.1 hh
  obtain ⟨h2, h3⟩ := h ys hy
  have h4 : isMu P sq ys = true := by
    unfold isMu nums
    rw [h2, Bool.and_eq_true]
    refine ⟨by simp, List.all_eq_true.2 fun x hx => ?_⟩
    have := h3 x hx
    simp [inR]
    omega
  rw [h4] at e
  simp at e
end Go.Proofs.YtggigolkncckoaaGreat
namespace Go.Proofs.YtggigolkncckoaaGreat
section
variable {p : Int} {sq : List Int}
theorem cg_wit {p a b : Int} : a % p = b % p ↔ ∃ k, a = b + p * k := by
  constructor
  · intro h
    have h1 := Int.emod_add_mul_ediv a p
    have h2 := Int.emod_add_mul_ediv b p
    exact ⟨a / p - b / p, by grind⟩
  · rintro ⟨k, rfl⟩
    rw [Int.add_mul_emod_self_left]
end
end Go.Proofs.YtggigolkncckoaaGreat
namespace Go.Proofs.YtggigolkncckoaaGreat
section
variable {p : Int} {sq : List Int}
instance : Std.Associative (α := Cl p sq) (· + ·) := ⟨Cl.add_assoc⟩
instance : Std.Commutative (α := Cl p sq) (· + ·) := ⟨Cl.add_comm⟩
end
end Go.Proofs.YtggigolkncckoaaGreat
namespace Go.Proofs.YtggigolkncckoaaGreat
section
variable {p : Int} {sq : List Int}
/-- A good list of vectors: of the right length, numbers, norms other than 0. -/
def Good (p : Int) (sq : List Int) (L : List (List Int)) : Prop := ∀ v ∈ L, v.length = sq.length ∧ NumsL p v ∧ bil sq v v % p ≠ 0
theorem Good.ne {L : List (List Int)} (h : Good p sq L) : ∀ v ∈ L, bil sq v v % p ≠ 0 := fun v hv => (h v hv).2.2
theorem Good.nums {L : List (List Int)} (h : Good p sq L) : ∀ v ∈ L, NumsL p v := fun v hv => (h v hv).2.1
end
end Go.Proofs.YtggigolkncckoaaGreat
namespace Go.Proofs.YtggigolkncckoaaGreat
section
variable {P : Int} {sq : List Int} {n : Nat} {xs : List Int}
theorem orth_trans {p : Int} {N K : Nat} {M : List (List Int)} (hT : Tab p N M) (hl : M.length = K) (h0 : 0 < K) (v : Nat → Int) : Orth p K (transL M) v ↔ ∀ i, i < N → (sumTo K fun q => ent M q i * v q) % p = 0 := by
  unfold Orth
  rw [transL_len hT (by omega)]
  refine forall_congr' fun i => forall_congr' fun hi => ?_
  have : (sumTo K fun q => ent (transL M) i q * v q) = sumTo K fun q => ent M q i * v q := sumTo_congr fun q hq => by
    have e : ent (transL M) i q = ent M q i := by
      show ((transL M).getD i []).getD q 0 = _
      unfold transL
      rw [row0_len hT (by omega), tab_getD hi, tab_getD (by omega)]
    rw [e]
  rw [this]
end
end Go.Proofs.YtggigolkncckoaaGreat
namespace Go.Proofs.YtggigolkncckoaaGreat
section
variable {p : Int} {sq : List Int}
/-- The multivector with 1 at one place. -/
def Cl.at_ (hp : 0 < p) (m : Nat) : Cl p sq := Cl.of hp fun q => if q = m then 1 else 0
theorem Cl.zero_all (hp : 0 < p) : ∀ y ∈ (Cl.zero hp : Cl p sq).l, y = 0 := fun y hy => by
  obtain ⟨i, hi, rfl⟩ := List.getElem_of_mem hy
  rw [Cl.len] at hi
  have h := Cl.zero_co (sq := sq) hp hi
  rw [Cl.co_mod] at h
  unfold Cl.co at h
  rw [getD_of_lt 0 (by rw [Cl.len]; exact hi)] at h
  exact h
end
end Go.Proofs.YtggigolkncckoaaGreat
