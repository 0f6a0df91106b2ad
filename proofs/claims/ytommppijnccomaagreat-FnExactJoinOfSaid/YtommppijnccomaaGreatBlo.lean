/-
  Blades of vectors, products of vectors, orthogonal vectors: the program's functions and the reference's.
-/
import Derived.Test.YtommppijnccomaaGreatSub
import Derived.Test.YtommppijnccomaaGreatDot
import Derived.Test.YtommppijnccomaaGreatCoef
namespace Go.Proofs.YtommppijnccomaaGreat
open Go.RowKit

/-- The outer product of vectors. -/
def wedgesL (P : Int) (sq : List Int) (n : Nat) (L : List (List Int)) : List Int := L.foldl (fun o v => wedgeL P sq o (vecTo n v n)) (bladeL n 0)
theorem wedgesL_snoc (P : Int) (sq : List Int) (n : Nat) (L : List (List Int)) (v : List Int) : wedgesL P sq n (L ++ [v]) = wedgeL P sq (wedgesL P sq n L) (vecTo n v n) := by unfold wedgesL; rw [List.foldl_append]; rfl
theorem wedgesL_len (P : Int) (sq : List Int) (n : Nat) : ∀ (k : Nat) (L : List (List Int)), L.length = k → (wedgesL P sq n L).length = pw n := by
  intro k
  induction k with
  | zero => intro L h; rw [List.eq_nil_of_length_eq_zero h]; exact bladeL_len n 0
  | succ k ih =>
    intro L h
    have hne : L ≠ [] := fun e => by rw [e] at h; simp at h
    rw [← List.dropLast_concat_getLast hne, wedgesL_snoc, wedgeL_len]
    exact ih _ (by rw [List.length_dropLast, h]; rfl)
theorem wedgesL_nums {P : Int} (hp : 2 ≤ P) (sq : List Int) (n : Nat) (L : List (List Int)) : NumsL P (wedgesL P sq n L) := by
  by_cases h : L = []
  · rw [h]; exact bladeL_nums hp n 0
  · rw [← List.dropLast_concat_getLast h, wedgesL_snoc]
    exact wedgeL_nums (by omega) _ _ _
/-- The blade of vectors. -/
def blaL (P : Int) (sq : List Int) (n : Nat) (L : List (List Int)) : List Int := wedgesL P sq n (basisL P L)
theorem blaL_len (P : Int) (sq : List Int) (n : Nat) (L : List (List Int)) : (blaL P sq n L).length = pw n := wedgesL_len P sq n _ _ rfl
theorem blaL_nums {P : Int} (hp : 2 ≤ P) (sq : List Int) (n : Nat) (L : List (List Int)) : NumsL P (blaL P sq n L) := wedgesL_nums hp sq n _

set_option maxHeartbeats 3200000 in
set_option maxRecDepth 8000 in
theorem wedgeAll_any (P : Int) (A : Option Addr) (n c : Nat) (sq : List Int) (B : Option Addr) (m d : Nat) (L : List (List Int)) (w : World) (HP : isP P = true) (hn : n ≤ 6) (h0 : 0 < n) (hm : m ≤ 65536) (ha : Rd w A n (ints sq)) (hs : NumsL P sq) (hb : RdII w B m L) (hL : Tab P n L) :
    Calls Tryz.prog 106 #[.agg #[.int .i64 P, .slice A n c], .slice B m d] w fun e w' => ∃ A' c', e = .returned (.slice A' (pw n) c') ∧ MkI w w' A' (pw n) c' (wedgesL P sq n L) := by
  obtain ⟨hp3, hp2⟩ := isP_ge HP
  have hp : 2 ≤ P := by omega
  have HML := Lib.hid hb.len
  have HTL := Lib.hid hL
  have hB0 : Below w.heap.size w (w.alloc (.cells #[.int .i64 P, .slice A n c] 28)) := (Below.refl _ _).alloc (Nat.le_refl _) _
  have k0 : Blk (w.alloc (.cells #[.int .i64 P, .slice A n c] 28)) w.heap.size 28 #[.int .i64 P, .slice A n c] := Blk.new _ _ _
  obtain ⟨q0, q1⟩ := k0.two
  clear hL
  go_enter Tryz.func106, Tryz.ntmps106
  go_wp2_with fail
  refine (one_any P A n c _ (by omega)).mono ?_
  rintro e w1 ⟨G, c1, rfl, hM1⟩
  have k1 := k0.below hM1.b k0.lt
  have hM := hM1.after hB0
  clear hM1 hB0 k0 q0 q1
  go_wp2
  go_loopw [5, 7, 12] (fun out _ i wr => ∃ (k : Nat) (G : Option Addr) (cg : Nat), k ≤ m ∧ i = .int .i64 k ∧ out = .slice G (pw n) cg ∧ MkI w wr G (pw n) cg (wedgesL P sq n (L.take k)) ∧ Blk wr w.heap.size 28 #[.int .i64 P, .slice A n c]) (fun _ _ i _ => m - (intOf i).toNat)
  case atStart => exact ⟨0, _, _, by omega, rfl, rfl, by simpa [wedgesL] using hM, k1⟩
  case round =>
    obtain ⟨k, G, cg, hk, rfl, rfl, hM2, k2⟩ := hrel
    clear hM k1
    obtain ⟨q0, q1⟩ := k2.two
    by_cases hlt : k < m
    · obtain ⟨g, o, rfl, hxk, A1, c1', hcx, hr, hcc⟩ := (hb.below hM2.b).at_ hlt
      have HRN := Lib.hid (HTL.out L[k] (List.getElem_mem hxk))
      have hl1 := HRN.out.1
      rw [hl1] at hcx hr
      have HR := Lib.hid hr
      have HT : Hid (wedgesL P sq n (L.take (k + 1)) = wedgeL P sq (wedgesL P sq n (L.take k)) (vecTo n L[k] n)) := Lib.hid (by rw [List.take_succ_eq_append_getElem hxk, wedgesL_snoc])
      have HN := Lib.hid (wedgesL_nums hp sq n (L.take k))
      have HM2 := Lib.hid hM2
      have HA := Lib.hid (ha.below hM2.b)
      have HSQ := Lib.hid hs
      obtain ⟨v, hv⟩ : ∃ v, v = L[k] := ⟨_, rfl⟩
      rw [← hv] at HRN HR HT
      obtain ⟨O, hO⟩ : ∃ O, O = wedgesL P sq n (L.take k) := ⟨_, rfl⟩
      rw [← hO] at HT HN HM2
      clear hl1 hr hcc hv hO hM2 hxk
      go_wp2
      refine wp_obs 6 [[], [], [], [], [2, 3], [0, 1, 2, 3, 4], [0, 1, 2, 3, 4, 5]] [VIs (.agg #[.int .i64 P, .slice A n c]), VIs (.slice G (pw n) cg), VIs (.agg #[.int .i64 P, .slice A n c]), VIs (.slice A1 n c1'), VSl wr (pw n) (vecTo n v n), VSl wr (pw n) (wedgeL P sq O (vecTo n v n))] (fun w' => Blk w' w.heap.size 28 #[.int .i64 P, .slice A n c] ∧ Below wr.heap.size wr w') (by kernel_rfl) (by kernel_rfl) (fun _ _ h hb => ⟨h.1.below hb h.1.lt, h.2.trans (hb.mono h.2.size)⟩) (⟨k2.drew, (Below.refl _ _).drew⟩) (fun x => ?_)
      refine obs_step (Eq.trans (by simp only [List.getElem?_toArray, List.getElem?_cons_zero]; exact rfl) rfl) rfl (fun w' hS hV K hK => ?_) ?_
      · obtain ⟨q0, q1⟩ := hS.1.two
        go_simp
        exact hK.out _ _ _ rfl rfl rfl (Below.refl _ _)
      simp only [List.setIfInBounds_toArray, List.set_cons_zero, List.set_cons_succ]
      refine obs_step (Eq.trans (by simp only [List.getElem?_toArray, List.getElem?_cons_succ, List.getElem?_cons_zero]; exact rfl) rfl) rfl (fun w' hS hV K hK => ?_) ?_
      · obtain ⟨q0, q1⟩ := hS.1.two
        go_simp
        exact hK.out _ _ _ rfl rfl rfl (Below.refl _ _)
      simp only [List.setIfInBounds_toArray, List.set_cons_zero, List.set_cons_succ]
      refine obs_step (Eq.trans (by simp only [List.getElem?_toArray, List.getElem?_cons_succ, List.getElem?_cons_zero]; exact rfl) rfl) rfl (fun w' hS hV K hK => ?_) ?_
      · obtain ⟨q0, q1⟩ := hS.1.two
        go_simp
        exact hK.out _ _ _ rfl rfl rfl (Below.refl _ _)
      simp only [List.setIfInBounds_toArray, List.set_cons_zero, List.set_cons_succ]
      refine obs_step (Eq.trans (by simp only [List.getElem?_toArray, List.getElem?_cons_succ, List.getElem?_cons_zero]; exact rfl) rfl) rfl (fun w' hS hV K hK => ?_) ?_
      · obtain ⟨q0, q1⟩ := hS.1.two
        go_simp
        exact hK.out _ _ _ rfl rfl rfl (Below.refl _ _)
      simp only [List.setIfInBounds_toArray, List.set_cons_zero, List.set_cons_succ]
      refine obs_step (Eq.trans (by simp only [List.getElem?_toArray, List.getElem?_cons_succ, List.getElem?_cons_zero]; exact rfl) rfl) rfl (fun w' hS hV K hK => ?_) ?_
      · have e2 : x 2 = (.agg #[.int .i64 P, .slice A n c]) := hV 2 (by decide)
        have e3 : x 3 = (.slice A1 n c1') := hV 3 (by decide)
        obtain ⟨q0, q1⟩ := hS.1.two
        go_simp
        refine (vector_any P A n c _ _ v _ (by omega) (HR.out.below hS.2)).mono ?_
        rintro e v1 ⟨A2, c2, rfl, hM⟩
        exact hK.out _ _ _ rfl rfl ⟨_, _, rfl, hM.after hS.2⟩ hM.b
      simp only [List.setIfInBounds_toArray, List.set_cons_zero, List.set_cons_succ]
      refine obs_step (Eq.trans (by simp only [List.getElem?_toArray, List.getElem?_cons_succ, List.getElem?_cons_zero]; exact rfl) rfl) rfl (fun w' hS hV K hK => ?_) ?_
      · have e0 : x 0 = (.agg #[.int .i64 P, .slice A n c]) := hV 0 (by decide)
        have e1 : x 1 = (.slice G (pw n) cg) := hV 1 (by decide)
        have e2 : x 2 = (.agg #[.int .i64 P, .slice A n c]) := hV 2 (by decide)
        have e3 : x 3 = (.slice A1 n c1') := hV 3 (by decide)
        obtain ⟨A4, c4, e4, h4⟩ := hV 4 (by decide)
        obtain ⟨q0, q1⟩ := hS.1.two
        go_simp
        refine (wedge_any P A n c sq _ _ O _ _ (vecTo n v n) _ hp hp2 hn (HA.out.below hS.2) HSQ.out (HM2.out.below hS.2).rd HN.out h4.rd (vecTo_nums (by omega) n _ HRN.out.2 n)).mono ?_
        rintro e v1 ⟨A2, c2, rfl, hM⟩
        exact hK.out _ _ _ rfl rfl ⟨_, _, rfl, hM.after hS.2⟩ hM.b
      simp only [List.setIfInBounds_toArray, List.set_cons_zero, List.set_cons_succ]
      refine fun w' hS hV => ?_
      have e0 : x 0 = (.agg #[.int .i64 P, .slice A n c]) := hV 0 (by decide)
      have e1 : x 1 = (.slice G (pw n) cg) := hV 1 (by decide)
      have e2 : x 2 = (.agg #[.int .i64 P, .slice A n c]) := hV 2 (by decide)
      have e3 : x 3 = (.slice A1 n c1') := hV 3 (by decide)
      obtain ⟨A4, c4, e4, h4⟩ := hV 4 (by decide)
      obtain ⟨A5, c5, e5, h5⟩ := hV 5 (by decide)
      simp only [e0, e1, e2, e3, e4, e5]
      clear e0 e1 e2 e3 e4 e5
      refine any_one (j := 6) (by kernel_rfl) (Eq.trans (by simp only [List.getElem?_toArray, List.getElem?_cons_succ, List.getElem?_cons_zero]; exact rfl) rfl) (fun K hK => ?_)
      go_simp
      refine hK.out _ _ (wpAny_done (by kernel_rfl) ?_ _)
      have k3 := hS.1
      have HMN := Lib.hid (h5.after HM2.out.b)
      clear hS h5 h4
      go_wp2
      go_roundw
      case rel => exact ⟨k + 1, A5, c5, by omega, by go_num, rfl, by rw [HT.out]; exact HMN.out, k3⟩
      case measure => simp [intOf]; omega
    · obtain rfl : k = m := by omega
      rw [List.take_of_length_le (by rw [HML.out]; exact Nat.le_refl _)] at hM2
      go_wp2
      go_ret
      exact ⟨_, _, rfl, hM2⟩

set_option maxHeartbeats 3200000 in
set_option maxRecDepth 8000 in
theorem l05Vectors_any (P : Int) (A : Option Addr) (n c : Nat) (sq : List Int) (B : Option Addr) (m d : Nat) (L : List (List Int)) (w : World) (HP : isP P = true) (hn : n ≤ 6) (h0 : 0 < n) (hm : m ≤ 65536) (ha : Rd w A n (ints sq)) (hs : NumsL P sq) (hb : RdII w B m L) (hL : Tab P n L) :
    Calls Tryz.prog 102 #[.agg #[.int .i64 P, .slice A n c], .slice B m d] w fun e w' => ∃ A' c', e = .returned (.slice A' (pw n) c') ∧ MkI w w' A' (pw n) c' (wedgesL P sq n L) := by
  obtain ⟨hp3, hp2⟩ := isP_ge HP
  have hp : 2 ≤ P := by omega
  have HML := Lib.hid hb.len
  have HTL := Lib.hid hL
  have hB0 : Below w.heap.size w (w.alloc (.cells #[.int .i64 P, .slice A n c] 28)) := (Below.refl _ _).alloc (Nat.le_refl _) _
  have k0 : Blk (w.alloc (.cells #[.int .i64 P, .slice A n c] 28)) w.heap.size 28 #[.int .i64 P, .slice A n c] := Blk.new _ _ _
  obtain ⟨q0, q1⟩ := k0.two
  clear hL
  go_enter Tryz.func102, Tryz.ntmps102
  go_wp2_with fail
  refine (l04One_any P A n c _ (by omega)).mono ?_
  rintro e w1 ⟨G, c1, rfl, hM1⟩
  have k1 := k0.below hM1.b k0.lt
  have hM := hM1.after hB0
  clear hM1 hB0 k0 q0 q1
  go_wp2
  go_loopw [5, 6] (fun out i wr => ∃ (k : Nat) (G : Option Addr) (cg : Nat), k ≤ m ∧ i = .int .i64 k ∧ out = .slice G (pw n) cg ∧ MkI w wr G (pw n) cg (wedgesL P sq n (L.take k)) ∧ Blk wr w.heap.size 28 #[.int .i64 P, .slice A n c]) (fun _ i _ => m - (intOf i).toNat)
  case atStart => exact ⟨0, _, _, by omega, rfl, rfl, by simpa [wedgesL] using hM, k1⟩
  case round =>
    obtain ⟨k, G, cg, hk, rfl, rfl, hM2, k2⟩ := hrel
    clear hM k1
    obtain ⟨q0, q1⟩ := k2.two
    by_cases hlt : k < m
    · obtain ⟨g, o, rfl, hxk, A1, c1', hcx, hr, hcc⟩ := (hb.below hM2.b).at_ hlt
      have HRN := Lib.hid (HTL.out L[k] (List.getElem_mem hxk))
      have hl1 := HRN.out.1
      rw [hl1] at hcx hr
      have HR := Lib.hid hr
      have HT : Hid (wedgesL P sq n (L.take (k + 1)) = wedgeL P sq (wedgesL P sq n (L.take k)) (vecTo n L[k] n)) := Lib.hid (by rw [List.take_succ_eq_append_getElem hxk, wedgesL_snoc])
      have HN := Lib.hid (wedgesL_nums hp sq n (L.take k))
      have HM2 := Lib.hid hM2
      have HA := Lib.hid (ha.below hM2.b)
      have HSQ := Lib.hid hs
      obtain ⟨v, hv⟩ : ∃ v, v = L[k] := ⟨_, rfl⟩
      rw [← hv] at HRN HR HT
      obtain ⟨O, hO⟩ : ∃ O, O = wedgesL P sq n (L.take k) := ⟨_, rfl⟩
      rw [← hO] at HT HN HM2
      clear hl1 hr hcc hv hO hM2 hxk
      go_wp2
      refine wp_obs 9 [[], [], [], [], [], [3, 4], [3, 4, 5], [2, 3, 4, 5, 6], [0, 1, 2, 3, 4, 5, 6, 7], [0, 1, 2, 3, 4, 5, 6, 7, 8]] [VIs (.agg #[.int .i64 P, .slice A n c]), VIs (.slice G (pw n) cg), VIs (.agg #[.int .i64 P, .slice A n c]), VIs (.slice (some ⟨g, o, none⟩) m d), VIs (.int .i64 (k)), VIs (.pointer (some ⟨g, o + k, none⟩)), VIs (.slice A1 n c1'), VSl wr (pw n) (vecTo n v n), VSl wr (pw n) (wedgeL P sq O (vecTo n v n))] (fun w' => w'.cell? ⟨g, o + k, none⟩ = some (.slice A1 n c1') ∧ Blk w' w.heap.size 28 #[.int .i64 P, .slice A n c] ∧ Below wr.heap.size wr w') (by kernel_rfl) (by kernel_rfl) (fun _ _ h hb => ⟨(hb.cell (World.block_lt_of_cell? _ _ h.1)).trans h.1, h.2.1.below hb h.2.1.lt, h.2.2.trans (hb.mono h.2.2.size)⟩) (⟨hcx, k2.drew, (Below.refl _ _).drew⟩) (fun x => ?_)
      refine obs_step (Eq.trans (by simp only [List.getElem?_toArray, List.getElem?_cons_zero]; exact rfl) rfl) rfl (fun w' hS hV K hK => ?_) ?_
      · have q2 := hS.1; obtain ⟨q0, q1⟩ := hS.2.1.two
        go_simp
        exact hK.out _ _ _ rfl rfl rfl (Below.refl _ _)
      simp only [List.setIfInBounds_toArray, List.set_cons_zero, List.set_cons_succ]
      refine obs_step (Eq.trans (by simp only [List.getElem?_toArray, List.getElem?_cons_succ, List.getElem?_cons_zero]; exact rfl) rfl) rfl (fun w' hS hV K hK => ?_) ?_
      · have q2 := hS.1; obtain ⟨q0, q1⟩ := hS.2.1.two
        go_simp
        exact hK.out _ _ _ rfl rfl rfl (Below.refl _ _)
      simp only [List.setIfInBounds_toArray, List.set_cons_zero, List.set_cons_succ]
      refine obs_step (Eq.trans (by simp only [List.getElem?_toArray, List.getElem?_cons_succ, List.getElem?_cons_zero]; exact rfl) rfl) rfl (fun w' hS hV K hK => ?_) ?_
      · have q2 := hS.1; obtain ⟨q0, q1⟩ := hS.2.1.two
        go_simp
        exact hK.out _ _ _ rfl rfl rfl (Below.refl _ _)
      simp only [List.setIfInBounds_toArray, List.set_cons_zero, List.set_cons_succ]
      refine obs_step (Eq.trans (by simp only [List.getElem?_toArray, List.getElem?_cons_succ, List.getElem?_cons_zero]; exact rfl) rfl) rfl (fun w' hS hV K hK => ?_) ?_
      · have q2 := hS.1; obtain ⟨q0, q1⟩ := hS.2.1.two
        go_simp
        exact hK.out _ _ _ rfl rfl rfl (Below.refl _ _)
      simp only [List.setIfInBounds_toArray, List.set_cons_zero, List.set_cons_succ]
      refine obs_step (Eq.trans (by simp only [List.getElem?_toArray, List.getElem?_cons_succ, List.getElem?_cons_zero]; exact rfl) rfl) rfl (fun w' hS hV K hK => ?_) ?_
      · have q2 := hS.1; obtain ⟨q0, q1⟩ := hS.2.1.two
        go_simp
        exact hK.out _ _ _ rfl rfl rfl (Below.refl _ _)
      simp only [List.setIfInBounds_toArray, List.set_cons_zero, List.set_cons_succ]
      refine obs_step (Eq.trans (by simp only [List.getElem?_toArray, List.getElem?_cons_succ, List.getElem?_cons_zero]; exact rfl) rfl) rfl (fun w' hS hV K hK => ?_) ?_
      · have e3 : x 3 = (.slice (some ⟨g, o, none⟩) m d) := hV 3 (by decide)
        have e4 : x 4 = (.int .i64 (k)) := hV 4 (by decide)
        have q2 := hS.1; obtain ⟨q0, q1⟩ := hS.2.1.two
        go_simp
        exact hK.out _ _ _ rfl rfl rfl (Below.refl _ _)
      simp only [List.setIfInBounds_toArray, List.set_cons_zero, List.set_cons_succ]
      refine obs_step (Eq.trans (by simp only [List.getElem?_toArray, List.getElem?_cons_succ, List.getElem?_cons_zero]; exact rfl) rfl) rfl (fun w' hS hV K hK => ?_) ?_
      · have e3 : x 3 = (.slice (some ⟨g, o, none⟩) m d) := hV 3 (by decide)
        have e4 : x 4 = (.int .i64 (k)) := hV 4 (by decide)
        have e5 : x 5 = (.pointer (some ⟨g, o + k, none⟩)) := hV 5 (by decide)
        have q2 := hS.1; obtain ⟨q0, q1⟩ := hS.2.1.two
        go_simp
        exact hK.out _ _ _ rfl rfl rfl (Below.refl _ _)
      simp only [List.setIfInBounds_toArray, List.set_cons_zero, List.set_cons_succ]
      refine obs_step (Eq.trans (by simp only [List.getElem?_toArray, List.getElem?_cons_succ, List.getElem?_cons_zero]; exact rfl) rfl) rfl (fun w' hS hV K hK => ?_) ?_
      · have e2 : x 2 = (.agg #[.int .i64 P, .slice A n c]) := hV 2 (by decide)
        have e3 : x 3 = (.slice (some ⟨g, o, none⟩) m d) := hV 3 (by decide)
        have e4 : x 4 = (.int .i64 (k)) := hV 4 (by decide)
        have e5 : x 5 = (.pointer (some ⟨g, o + k, none⟩)) := hV 5 (by decide)
        have e6 : x 6 = (.slice A1 n c1') := hV 6 (by decide)
        have q2 := hS.1; obtain ⟨q0, q1⟩ := hS.2.1.two
        go_simp
        refine (l04Vector_any P A n c _ _ v _ (by omega) (HR.out.below hS.2.2)).mono ?_
        rintro e v1 ⟨A2, c2, rfl, hM⟩
        exact hK.out _ _ _ rfl rfl ⟨_, _, rfl, hM.after hS.2.2⟩ hM.b
      simp only [List.setIfInBounds_toArray, List.set_cons_zero, List.set_cons_succ]
      refine obs_step (Eq.trans (by simp only [List.getElem?_toArray, List.getElem?_cons_succ, List.getElem?_cons_zero]; exact rfl) rfl) rfl (fun w' hS hV K hK => ?_) ?_
      · have e0 : x 0 = (.agg #[.int .i64 P, .slice A n c]) := hV 0 (by decide)
        have e1 : x 1 = (.slice G (pw n) cg) := hV 1 (by decide)
        have e2 : x 2 = (.agg #[.int .i64 P, .slice A n c]) := hV 2 (by decide)
        have e3 : x 3 = (.slice (some ⟨g, o, none⟩) m d) := hV 3 (by decide)
        have e4 : x 4 = (.int .i64 (k)) := hV 4 (by decide)
        have e5 : x 5 = (.pointer (some ⟨g, o + k, none⟩)) := hV 5 (by decide)
        have e6 : x 6 = (.slice A1 n c1') := hV 6 (by decide)
        obtain ⟨A7, c7, e7, h7⟩ := hV 7 (by decide)
        have q2 := hS.1; obtain ⟨q0, q1⟩ := hS.2.1.two
        go_simp
        refine (l05Wedge_any P A n c sq _ _ O _ _ (vecTo n v n) _ hp hp2 hn (HA.out.below hS.2.2) HSQ.out (HM2.out.below hS.2.2).rd HN.out h7.rd (vecTo_nums (by omega) n _ HRN.out.2 n)).mono ?_
        rintro e v1 ⟨A2, c2, rfl, hM⟩
        exact hK.out _ _ _ rfl rfl ⟨_, _, rfl, hM.after hS.2.2⟩ hM.b
      simp only [List.setIfInBounds_toArray, List.set_cons_zero, List.set_cons_succ]
      refine fun w' hS hV => ?_
      have e0 : x 0 = (.agg #[.int .i64 P, .slice A n c]) := hV 0 (by decide)
      have e1 : x 1 = (.slice G (pw n) cg) := hV 1 (by decide)
      have e2 : x 2 = (.agg #[.int .i64 P, .slice A n c]) := hV 2 (by decide)
      have e3 : x 3 = (.slice (some ⟨g, o, none⟩) m d) := hV 3 (by decide)
      have e4 : x 4 = (.int .i64 (k)) := hV 4 (by decide)
      have e5 : x 5 = (.pointer (some ⟨g, o + k, none⟩)) := hV 5 (by decide)
      have e6 : x 6 = (.slice A1 n c1') := hV 6 (by decide)
      obtain ⟨A7, c7, e7, h7⟩ := hV 7 (by decide)
      obtain ⟨A8, c8, e8, h8⟩ := hV 8 (by decide)
      simp only [e0, e1, e2, e3, e4, e5, e6, e7, e8]
      clear e0 e1 e2 e3 e4 e5 e6 e7 e8
      refine any_one (j := 9) (by kernel_rfl) (Eq.trans (by simp only [List.getElem?_toArray, List.getElem?_cons_succ, List.getElem?_cons_zero]; exact rfl) rfl) (fun K hK => ?_)
      go_simp
      refine hK.out _ _ (wpAny_done (by kernel_rfl) ?_ _)
      have k3 := hS.2.1
      have HMN := Lib.hid (h8.after HM2.out.b)
      clear hS h8 h7
      go_wp2
      go_roundw
      case rel => exact ⟨k + 1, A8, c8, by omega, by go_num, rfl, by rw [HT.out]; exact HMN.out, k3⟩
      case measure => simp [intOf]; omega
    · obtain rfl : k = m := by omega
      rw [List.take_of_length_le (by rw [HML.out]; exact Nat.le_refl _)] at hM2
      go_wp2
      go_ret
      exact ⟨_, _, rfl, hM2⟩

set_option maxHeartbeats 1600000 in
set_option maxRecDepth 8000 in
theorem bladeOf_any (P : Int) (A : Option Addr) (n c : Nat) (sq : List Int) (B : Option Addr) (m d : Nat) (L : List (List Int)) (w : World) (HP : isP P = true) (hn : n ≤ 6) (h0 : 0 < n) (hm : m ≤ 65536) (ha : Rd w A n (ints sq)) (hs : NumsL P sq) (hb : RdII w B m L) (hL : Tab P n L) :
    Calls Tryz.prog 65 #[.agg #[.int .i64 P, .slice A n c], .slice B m d] w fun e w' => ∃ A' c', e = .returned (.slice A' (pw n) c') ∧ MkI w w' A' (pw n) c' (blaL P sq n L) := by
  obtain ⟨hp3, hp2⟩ := isP_ge HP
  have hp : 2 ≤ P := by omega
  have HBL : Hid (blaL P sq n L = wedgesL P sq n (basisL P L)) := Lib.hid rfl
  have HBT := Lib.hid (basisL_tab (p := P) (by omega) L hL)
  have hbl := (basisL_len (p := P) (by omega) L hL).2
  rw [hb.len] at hbl
  have HPP := Lib.hid HP
  have HBA := Lib.hid (fun w' (h : Below w.heap.size w w') => basis_any P B m d L n w' HP hm (by omega) (hb.below h) hL)
  have hB0 : Below w.heap.size w (w.alloc (.cells #[.int .i64 P, .slice A n c] 28)) := (Below.refl _ _).alloc (Nat.le_refl _) _
  have k0 : Blk (w.alloc (.cells #[.int .i64 P, .slice A n c] 28)) w.heap.size 28 #[.int .i64 P, .slice A n c] := Blk.new _ _ _
  clear hL HP
  go_enter Tryz.func65, Tryz.ntmps65
  go_wp2
  refine wp_obs 7 [[], [], [1], [], [1, 2, 3], [0, 1, 2, 3, 4], [0, 1, 2, 3, 4, 5]] [VIs (.agg #[.int .i64 P, .slice A n c]), VIs (.agg #[.int .i64 P, .slice A n c]), VIs (.int .i64 (P)), VIs (.slice B m d), VMat w (basisL P L).length (basisL P L), VSl w (pw n) (blaL P sq n L), VSl w (pw n) (blaL P sq n L)] (fun w' => Blk w' w.heap.size 28 #[.int .i64 P, .slice A n c] ∧ Below w.heap.size w w') (by kernel_rfl) (by kernel_rfl) (fun _ _ h hb => ⟨h.1.below hb h.1.lt, h.2.trans (hb.mono h.2.size)⟩) (⟨k0.drew, hB0.drew⟩) (fun x => ?_)
  refine obs_step (Eq.trans (by simp only [List.getElem?_toArray, List.getElem?_cons_zero]; exact rfl) rfl) rfl (fun w' hS hV K hK => ?_) ?_
  · obtain ⟨q0, q1⟩ := hS.1.two
    go_simp
    exact hK.out _ _ _ rfl rfl rfl (Below.refl _ _)
  simp only [List.setIfInBounds_toArray, List.set_cons_zero, List.set_cons_succ]
  refine obs_step (Eq.trans (by simp only [List.getElem?_toArray, List.getElem?_cons_succ, List.getElem?_cons_zero]; exact rfl) rfl) rfl (fun w' hS hV K hK => ?_) ?_
  · obtain ⟨q0, q1⟩ := hS.1.two
    go_simp
    exact hK.out _ _ _ rfl rfl rfl (Below.refl _ _)
  simp only [List.setIfInBounds_toArray, List.set_cons_zero, List.set_cons_succ]
  refine obs_step (Eq.trans (by simp only [List.getElem?_toArray, List.getElem?_cons_succ, List.getElem?_cons_zero]; exact rfl) rfl) rfl (fun w' hS hV K hK => ?_) ?_
  · have e1 : x 1 = (.agg #[.int .i64 P, .slice A n c]) := hV 1 (by decide)
    obtain ⟨q0, q1⟩ := hS.1.two
    go_simp
    refine (field_any _ _ _ _ _).mono ?_
    rintro e v1 ⟨rfl, hb⟩
    exact hK.out _ _ _ rfl rfl rfl hb
  simp only [List.setIfInBounds_toArray, List.set_cons_zero, List.set_cons_succ]
  refine obs_step (Eq.trans (by simp only [List.getElem?_toArray, List.getElem?_cons_succ, List.getElem?_cons_zero]; exact rfl) rfl) rfl (fun w' hS hV K hK => ?_) ?_
  · obtain ⟨q0, q1⟩ := hS.1.two
    go_simp
    exact hK.out _ _ _ rfl rfl rfl (Below.refl _ _)
  simp only [List.setIfInBounds_toArray, List.set_cons_zero, List.set_cons_succ]
  refine obs_step (Eq.trans (by simp only [List.getElem?_toArray, List.getElem?_cons_succ, List.getElem?_cons_zero]; exact rfl) rfl) rfl (fun w' hS hV K hK => ?_) ?_
  · have e1 : x 1 = (.agg #[.int .i64 P, .slice A n c]) := hV 1 (by decide)
    have e2 : x 2 = (.int .i64 (P)) := hV 2 (by decide)
    have e3 : x 3 = (.slice B m d) := hV 3 (by decide)
    obtain ⟨q0, q1⟩ := hS.1.two
    go_simp
    refine (HBA.out _ hS.2).mono ?_
    rintro e v1 ⟨A2, c2, rfl, hM⟩
    exact hK.out _ _ _ rfl rfl ⟨_, _, rfl, hM.after hS.2⟩ hM.b
  simp only [List.setIfInBounds_toArray, List.set_cons_zero, List.set_cons_succ]
  refine obs_step (Eq.trans (by simp only [List.getElem?_toArray, List.getElem?_cons_succ, List.getElem?_cons_zero]; exact rfl) rfl) rfl (fun w' hS hV K hK => ?_) ?_
  · have e0 : x 0 = (.agg #[.int .i64 P, .slice A n c]) := hV 0 (by decide)
    have e1 : x 1 = (.agg #[.int .i64 P, .slice A n c]) := hV 1 (by decide)
    have e2 : x 2 = (.int .i64 (P)) := hV 2 (by decide)
    have e3 : x 3 = (.slice B m d) := hV 3 (by decide)
    obtain ⟨A4, c4, e4, h4⟩ := hV 4 (by decide)
    obtain ⟨q0, q1⟩ := hS.1.two
    go_simp
    refine (wedgeAll_any P A n c sq _ _ _ (basisL P L) _ HPP.out hn h0 (by omega) (ha.below hS.2) hs h4.rd HBT.out).mono ?_
    rw [← HBL.out]
    rintro e v1 ⟨A2, c2, rfl, hM⟩
    exact hK.out _ _ _ rfl rfl ⟨_, _, rfl, hM.after hS.2⟩ hM.b
  simp only [List.setIfInBounds_toArray, List.set_cons_zero, List.set_cons_succ]
  refine obs_step (Eq.trans (by simp only [List.getElem?_toArray, List.getElem?_cons_succ, List.getElem?_cons_zero]; exact rfl) rfl) rfl (fun w' hS hV K hK => ?_) ?_
  · have e0 : x 0 = (.agg #[.int .i64 P, .slice A n c]) := hV 0 (by decide)
    have e1 : x 1 = (.agg #[.int .i64 P, .slice A n c]) := hV 1 (by decide)
    have e2 : x 2 = (.int .i64 (P)) := hV 2 (by decide)
    have e3 : x 3 = (.slice B m d) := hV 3 (by decide)
    obtain ⟨A4, c4, e4, h4⟩ := hV 4 (by decide)
    obtain ⟨A5, c5, e5, h5⟩ := hV 5 (by decide)
    obtain ⟨q0, q1⟩ := hS.1.two
    go_simp
    exact hK.out _ _ _ rfl rfl ⟨_, _, rfl, h5⟩ (Below.refl _ _)
  simp only [List.setIfInBounds_toArray, List.set_cons_zero, List.set_cons_succ]
  refine fun w' hS hV => ?_
  have e0 : x 0 = (.agg #[.int .i64 P, .slice A n c]) := hV 0 (by decide)
  have e1 : x 1 = (.agg #[.int .i64 P, .slice A n c]) := hV 1 (by decide)
  have e2 : x 2 = (.int .i64 (P)) := hV 2 (by decide)
  have e3 : x 3 = (.slice B m d) := hV 3 (by decide)
  obtain ⟨A4, c4, e4, h4⟩ := hV 4 (by decide)
  obtain ⟨A5, c5, e5, h5⟩ := hV 5 (by decide)
  obtain ⟨A6, c6, e6, h6⟩ := hV 6 (by decide)
  simp only [e0, e1, e2, e3, e4, e5, e6]
  clear e0 e1 e2 e3 e4 e5 e6
  refine wpAny_done (by kernel_rfl) ?_ _
  go_wp2
  go_ret
  exact ⟨_, _, rfl, h6⟩

set_option maxHeartbeats 1600000 in
set_option maxRecDepth 8000 in
theorem l06Blade_any (P : Int) (A : Option Addr) (n c : Nat) (sq : List Int) (B : Option Addr) (m d : Nat) (L : List (List Int)) (w : World) (HP : isP P = true) (hn : n ≤ 6) (h0 : 0 < n) (hm : m ≤ 65536) (ha : Rd w A n (ints sq)) (hs : NumsL P sq) (hb : RdII w B m L) (hL : Tab P n L) :
    Calls Tryz.prog 62 #[.agg #[.int .i64 P, .slice A n c], .slice B m d] w fun e w' => ∃ A' c', e = .returned (.slice A' (pw n) c') ∧ MkI w w' A' (pw n) c' (blaL P sq n L) := by
  obtain ⟨hp3, hp2⟩ := isP_ge HP
  have hp : 2 ≤ P := by omega
  have HBL : Hid (blaL P sq n L = wedgesL P sq n (basisL P L)) := Lib.hid rfl
  have HBT := Lib.hid (basisL_tab (p := P) (by omega) L hL)
  have hbl := (basisL_len (p := P) (by omega) L hL).2
  rw [hb.len] at hbl
  have HPP := Lib.hid HP
  have HBA := Lib.hid (fun w' (h : Below w.heap.size w w') => l02Basis_any P B m d L n w' HP hm (by omega) (hb.below h) hL)
  have hB0 : Below w.heap.size w (w.alloc (.cells #[.int .i64 P, .slice A n c] 28)) := (Below.refl _ _).alloc (Nat.le_refl _) _
  have k0 : Blk (w.alloc (.cells #[.int .i64 P, .slice A n c] 28)) w.heap.size 28 #[.int .i64 P, .slice A n c] := Blk.new _ _ _
  clear hL HP
  go_enter Tryz.func62, Tryz.ntmps62
  go_wp2
  refine wp_obs 7 [[], [], [1], [], [1, 2, 3], [0, 1, 2, 3, 4], [0, 1, 2, 3, 4, 5]] [VIs (.agg #[.int .i64 P, .slice A n c]), VIs (.pointer (some ⟨w.heap.size, 0, none⟩)), VIs (.int .i64 (P)), VIs (.slice B m d), VMat w (basisL P L).length (basisL P L), VSl w (pw n) (blaL P sq n L), VSl w (pw n) (blaL P sq n L)] (fun w' => Blk w' w.heap.size 28 #[.int .i64 P, .slice A n c] ∧ Below w.heap.size w w') (by kernel_rfl) (by kernel_rfl) (fun _ _ h hb => ⟨h.1.below hb h.1.lt, h.2.trans (hb.mono h.2.size)⟩) (⟨k0.drew, hB0.drew⟩) (fun x => ?_)
  refine obs_step (Eq.trans (by simp only [List.getElem?_toArray, List.getElem?_cons_zero]; exact rfl) rfl) rfl (fun w' hS hV K hK => ?_) ?_
  · obtain ⟨q0, q1⟩ := hS.1.two
    go_simp
    exact hK.out _ _ _ rfl rfl rfl (Below.refl _ _)
  simp only [List.setIfInBounds_toArray, List.set_cons_zero, List.set_cons_succ]
  refine obs_step (Eq.trans (by simp only [List.getElem?_toArray, List.getElem?_cons_succ, List.getElem?_cons_zero]; exact rfl) rfl) rfl (fun w' hS hV K hK => ?_) ?_
  · obtain ⟨q0, q1⟩ := hS.1.two
    go_simp
    exact hK.out _ _ _ rfl rfl rfl (Below.refl _ _)
  simp only [List.setIfInBounds_toArray, List.set_cons_zero, List.set_cons_succ]
  refine obs_step (Eq.trans (by simp only [List.getElem?_toArray, List.getElem?_cons_succ, List.getElem?_cons_zero]; exact rfl) rfl) rfl (fun w' hS hV K hK => ?_) ?_
  · have e1 : x 1 = (.pointer (some ⟨w.heap.size, 0, none⟩)) := hV 1 (by decide)
    obtain ⟨q0, q1⟩ := hS.1.two
    go_simp
    exact hK.out _ _ _ rfl rfl rfl (Below.refl _ _)
  simp only [List.setIfInBounds_toArray, List.set_cons_zero, List.set_cons_succ]
  refine obs_step (Eq.trans (by simp only [List.getElem?_toArray, List.getElem?_cons_succ, List.getElem?_cons_zero]; exact rfl) rfl) rfl (fun w' hS hV K hK => ?_) ?_
  · obtain ⟨q0, q1⟩ := hS.1.two
    go_simp
    exact hK.out _ _ _ rfl rfl rfl (Below.refl _ _)
  simp only [List.setIfInBounds_toArray, List.set_cons_zero, List.set_cons_succ]
  refine obs_step (Eq.trans (by simp only [List.getElem?_toArray, List.getElem?_cons_succ, List.getElem?_cons_zero]; exact rfl) rfl) rfl (fun w' hS hV K hK => ?_) ?_
  · have e1 : x 1 = (.pointer (some ⟨w.heap.size, 0, none⟩)) := hV 1 (by decide)
    have e2 : x 2 = (.int .i64 (P)) := hV 2 (by decide)
    have e3 : x 3 = (.slice B m d) := hV 3 (by decide)
    obtain ⟨q0, q1⟩ := hS.1.two
    go_simp
    refine (HBA.out _ hS.2).mono ?_
    rintro e v1 ⟨A2, c2, rfl, hM⟩
    exact hK.out _ _ _ rfl rfl ⟨_, _, rfl, hM.after hS.2⟩ hM.b
  simp only [List.setIfInBounds_toArray, List.set_cons_zero, List.set_cons_succ]
  refine obs_step (Eq.trans (by simp only [List.getElem?_toArray, List.getElem?_cons_succ, List.getElem?_cons_zero]; exact rfl) rfl) rfl (fun w' hS hV K hK => ?_) ?_
  · have e0 : x 0 = (.agg #[.int .i64 P, .slice A n c]) := hV 0 (by decide)
    have e1 : x 1 = (.pointer (some ⟨w.heap.size, 0, none⟩)) := hV 1 (by decide)
    have e2 : x 2 = (.int .i64 (P)) := hV 2 (by decide)
    have e3 : x 3 = (.slice B m d) := hV 3 (by decide)
    obtain ⟨A4, c4, e4, h4⟩ := hV 4 (by decide)
    obtain ⟨q0, q1⟩ := hS.1.two
    go_simp
    refine (l05Vectors_any P A n c sq _ _ _ (basisL P L) _ HPP.out hn h0 (by omega) (ha.below hS.2) hs h4.rd HBT.out).mono ?_
    rw [← HBL.out]
    rintro e v1 ⟨A2, c2, rfl, hM⟩
    exact hK.out _ _ _ rfl rfl ⟨_, _, rfl, hM.after hS.2⟩ hM.b
  simp only [List.setIfInBounds_toArray, List.set_cons_zero, List.set_cons_succ]
  refine obs_step (Eq.trans (by simp only [List.getElem?_toArray, List.getElem?_cons_succ, List.getElem?_cons_zero]; exact rfl) rfl) rfl (fun w' hS hV K hK => ?_) ?_
  · have e0 : x 0 = (.agg #[.int .i64 P, .slice A n c]) := hV 0 (by decide)
    have e1 : x 1 = (.pointer (some ⟨w.heap.size, 0, none⟩)) := hV 1 (by decide)
    have e2 : x 2 = (.int .i64 (P)) := hV 2 (by decide)
    have e3 : x 3 = (.slice B m d) := hV 3 (by decide)
    obtain ⟨A4, c4, e4, h4⟩ := hV 4 (by decide)
    obtain ⟨A5, c5, e5, h5⟩ := hV 5 (by decide)
    obtain ⟨q0, q1⟩ := hS.1.two
    go_simp
    exact hK.out _ _ _ rfl rfl ⟨_, _, rfl, h5⟩ (Below.refl _ _)
  simp only [List.setIfInBounds_toArray, List.set_cons_zero, List.set_cons_succ]
  refine fun w' hS hV => ?_
  have e0 : x 0 = (.agg #[.int .i64 P, .slice A n c]) := hV 0 (by decide)
  have e1 : x 1 = (.pointer (some ⟨w.heap.size, 0, none⟩)) := hV 1 (by decide)
  have e2 : x 2 = (.int .i64 (P)) := hV 2 (by decide)
  have e3 : x 3 = (.slice B m d) := hV 3 (by decide)
  obtain ⟨A4, c4, e4, h4⟩ := hV 4 (by decide)
  obtain ⟨A5, c5, e5, h5⟩ := hV 5 (by decide)
  obtain ⟨A6, c6, e6, h6⟩ := hV 6 (by decide)
  simp only [e0, e1, e2, e3, e4, e5, e6]
  clear e0 e1 e2 e3 e4 e5 e6
  refine wpAny_done (by kernel_rfl) ?_ _
  go_wp2
  go_ret
  exact ⟨_, _, rfl, h6⟩

/-- A vector with all numbers multiplied by the squares. -/
def weiL (P : Int) (sq v : List Int) : List Int := tab v.length fun i => v.getD i 0 * sq.getD i 0 % P
theorem weiL_len (P : Int) (sq v : List Int) : (weiL P sq v).length = v.length := tab_len _ _
theorem weiL_nums {P : Int} (hp : 0 < P) (sq v : List Int) : NumsL P (weiL P sq v) := NumsL.tab fun i _ => ⟨Int.emod_nonneg _ (by omega), Int.emod_lt_of_pos _ hp⟩
/-- The product of two vectors. -/
def pairL (P : Int) (sq v u : List Int) : Int := dotL P (weiL P sq v) u
theorem pairL_sum {P : Int} {sq v u : List Int} {n : Nat} (hv : v.length = n) : pairL P sq v u = (sumTo n fun i => v.getD i 0 * u.getD i 0 % P * sq.getD i 0) % P := by
  unfold pairL dotL
  rw [weiL_len, hv]
  refine sumTo_mod P fun i hi => ?_
  unfold weiL
  rw [tab_getD (by omega), Int.mul_emod, Int.emod_emod_of_dvd _ (Int.dvd_refl P), ← Int.mul_emod, Int.mul_emod (v.getD i 0 * u.getD i 0 % P), Int.emod_emod_of_dvd _ (Int.dvd_refl P), ← Int.mul_emod, Int.mul_assoc, Int.mul_comm (sq.getD i 0), ← Int.mul_assoc]

set_option maxHeartbeats 3200000 in
set_option maxRecDepth 8000 in
theorem weighted_any (P : Int) (A : Option Addr) (n c : Nat) (sq : List Int) (X : Option Addr) (cx : Nat) (v : List Int) (w : World) (hp : 2 ≤ P) (hp2 : P ≤ 13) (hn : n ≤ 6) (ha : Rd w A n (ints sq)) (hs : NumsL P sq) (hx : Rd w X n (ints v)) (hv : NumsL P v) :
    Calls Tryz.prog 112 #[.agg #[.int .i64 P, .slice A n c], .slice X n cx] w fun e w' => ∃ A' c', e = .returned (.slice A' n c') ∧ MkI w w' A' n c' (weiL P sq v) := by
  have HL : Hid (weiL P sq v = tab n fun i => v.getD i 0 * sq.getD i 0 % P) := Lib.hid (by unfold weiL; rw [hx.lenI])
  have hB0 : Below w.heap.size w (w.alloc (.cells #[.int .i64 P, .slice A n c] 28)) := (Below.refl _ _).alloc (Nat.le_refl _) _
  have k0 : Blk (w.alloc (.cells #[.int .i64 P, .slice A n c] 28)) w.heap.size 28 #[.int .i64 P, .slice A n c] := Blk.new _ _ _
  have k1 := k0.alloc (.cells #[] 2)
  have hM0 := Mk.lit (E := 2) hB0 #[] (by simp)
  have hM1 : MkI w ((w.alloc (.cells #[.int .i64 P, .slice A n c] 28)).alloc (.cells #[] 2)) (some ⟨w.heap.size + 1, 0, none⟩) 0 0 (tab 0 fun i => v.getD i 0 * sq.getD i 0 % P) := by
    simpa [MkI, ints, tab] using hM0
  clear k0 hB0 hM0
  go_enter Tryz.func112, Tryz.ntmps112
  go_wp2
  go_loopw [5, 6, 7, 11] (fun out _ _ i wr => ∃ (j : Nat) (A' : Option Addr) (c' : Nat), j ≤ n ∧ i = .int .i64 j ∧ out = .slice A' j c' ∧ MkI w wr A' j c' (tab j fun i => v.getD i 0 * sq.getD i 0 % P) ∧ Blk wr w.heap.size 28 #[.int .i64 P, .slice A n c]) (fun _ _ _ i _ => n - (intOf i).toNat)
  case atStart => exact ⟨0, _, _, by omega, rfl, rfl, hM1, k1⟩
  case round =>
    obtain ⟨j, A', c', hj, rfl, rfl, hM, k2⟩ := hrel
    clear hM1 k1
    obtain ⟨q0, q1⟩ := k2.two
    by_cases hlt : j < n
    · obtain ⟨g, o, rfl, hxj, hcx⟩ := (hx.below hM.b).int hlt
      obtain ⟨g2, o2, rfl, hyj, hcy⟩ := (ha.below hM.b).int hlt
      obtain ⟨x1, x2⟩ := hv _ (List.getElem_mem hxj)
      obtain ⟨y1, y2⟩ := hs _ (List.getElem_mem hyj)
      have HV : Hid ((tab (j + 1) fun i => v.getD i 0 * sq.getD i 0 % P) = (tab j fun i => v.getD i 0 * sq.getD i 0 % P) ++ [v[j] * sq[j] % P]) := Lib.hid (by rw [tab_succ, getD_of_lt 0 hxj, getD_of_lt 0 hyj])
      obtain ⟨xa, hxe⟩ : ∃ xa, xa = v[j] := ⟨_, rfl⟩
      obtain ⟨ya, hye⟩ : ∃ ya, ya = sq[j] := ⟨_, rfl⟩
      rw [← hxe] at hcx x1 x2 HV
      rw [← hye] at hcy y1 y2 HV
      obtain ⟨m1, m2⟩ := mul_small x1 (show xa ≤ 13 by omega) y1 (show ya ≤ 13 by omega)
      have W1 := i64_fit (xa * ya) (by omega) (by omega)
      have i1 : (0 : Int) ≤ (j : Int) := by omega
      have i2 : (j : Int) < (n : Int) := by omega
      have HM := Lib.hid hM
      clear hxe hye hxj hyj hM
      go_wp2
      refine wp_obs 12 [[], [], [1], [], [], [4], [], [4, 5, 6], [4, 5, 6, 7], [3, 4, 5, 6, 7, 8], [1, 2, 3, 4, 5, 6, 7, 8, 9], [1, 2, 3, 4, 5, 6, 7, 8, 9, 10], [0, 1, 2, 3, 4, 5, 6, 7, 8, 9, 10, 11], [0, 1, 2, 3, 4, 5, 6, 7, 8, 9, 10, 11, 12]] [VIs (.slice A' j c'), VIs (.agg #[.int .i64 P, .slice (some ⟨g2, o2, none⟩) n c]), VIs (.int .i64 (P)), VIs (.int .i64 (xa)), VIs (.pointer (some ⟨w.heap.size, 1, none⟩)), VIs (.slice (some ⟨g2, o2, none⟩) n c), VIs (.int .i64 (j)), VIs (.pointer (some ⟨g2, o2 + j, none⟩)), VIs (.int .i64 (ya)), VIs (.int .i64 (xa * ya)), VIs (.int .i64 (xa * ya % P)), VBs 2 #[.int .i64 (xa * ya % P)]] (fun w' => w'.cell? ⟨g2, o2 + j, none⟩ = some (.int .i64 ya) ∧ Blk w' w.heap.size 28 #[.int .i64 P, .slice (some ⟨g2, o2, none⟩) n c] ∧ Below wr.heap.size wr w') (by kernel_rfl) (by kernel_rfl) (fun _ _ h hb => ⟨(hb.cell (World.block_lt_of_cell? _ _ h.1)).trans h.1, h.2.1.below hb h.2.1.lt, h.2.2.trans (hb.mono h.2.2.size)⟩) (⟨hcy, k2.drew, (Below.refl _ _).drew⟩) (fun x => ?_)
      refine obs_step (Eq.trans (by simp only [List.getElem?_toArray, List.getElem?_cons_zero]; exact rfl) rfl) rfl (fun w' hS hV K hK => ?_) ?_
      · have q2 := hS.1; obtain ⟨q0, q1⟩ := hS.2.1.two
        go_simp
        exact hK.out _ _ _ rfl rfl rfl (Below.refl _ _)
      simp only [List.setIfInBounds_toArray, List.set_cons_zero, List.set_cons_succ]
      refine obs_step (Eq.trans (by simp only [List.getElem?_toArray, List.getElem?_cons_succ, List.getElem?_cons_zero]; exact rfl) rfl) rfl (fun w' hS hV K hK => ?_) ?_
      · have q2 := hS.1; obtain ⟨q0, q1⟩ := hS.2.1.two
        go_simp
        exact hK.out _ _ _ rfl rfl rfl (Below.refl _ _)
      simp only [List.setIfInBounds_toArray, List.set_cons_zero, List.set_cons_succ]
      refine obs_step (Eq.trans (by simp only [List.getElem?_toArray, List.getElem?_cons_succ, List.getElem?_cons_zero]; exact rfl) rfl) rfl (fun w' hS hV K hK => ?_) ?_
      · have e1 : x 1 = (.agg #[.int .i64 P, .slice (some ⟨g2, o2, none⟩) n c]) := hV 1 (by decide)
        have q2 := hS.1; obtain ⟨q0, q1⟩ := hS.2.1.two
        go_simp
        refine (field_any _ _ _ _ _).mono ?_
        rintro e v1 ⟨rfl, hb⟩
        exact hK.out _ _ _ rfl rfl rfl hb
      simp only [List.setIfInBounds_toArray, List.set_cons_zero, List.set_cons_succ]
      refine obs_step (Eq.trans (by simp only [List.getElem?_toArray, List.getElem?_cons_succ, List.getElem?_cons_zero]; exact rfl) rfl) rfl (fun w' hS hV K hK => ?_) ?_
      · have q2 := hS.1; obtain ⟨q0, q1⟩ := hS.2.1.two
        go_simp
        exact hK.out _ _ _ rfl rfl rfl (Below.refl _ _)
      simp only [List.setIfInBounds_toArray, List.set_cons_zero, List.set_cons_succ]
      refine obs_step (Eq.trans (by simp only [List.getElem?_toArray, List.getElem?_cons_succ, List.getElem?_cons_zero]; exact rfl) rfl) rfl (fun w' hS hV K hK => ?_) ?_
      · have q2 := hS.1; obtain ⟨q0, q1⟩ := hS.2.1.two
        go_simp
        exact hK.out _ _ _ rfl rfl rfl (Below.refl _ _)
      simp only [List.setIfInBounds_toArray, List.set_cons_zero, List.set_cons_succ]
      refine obs_step (Eq.trans (by simp only [List.getElem?_toArray, List.getElem?_cons_succ, List.getElem?_cons_zero]; exact rfl) rfl) rfl (fun w' hS hV K hK => ?_) ?_
      · have e4 : x 4 = (.pointer (some ⟨w.heap.size, 1, none⟩)) := hV 4 (by decide)
        have q2 := hS.1; obtain ⟨q0, q1⟩ := hS.2.1.two
        go_simp
        exact hK.out _ _ _ rfl rfl rfl (Below.refl _ _)
      simp only [List.setIfInBounds_toArray, List.set_cons_zero, List.set_cons_succ]
      refine obs_step (Eq.trans (by simp only [List.getElem?_toArray, List.getElem?_cons_succ, List.getElem?_cons_zero]; exact rfl) rfl) rfl (fun w' hS hV K hK => ?_) ?_
      · have q2 := hS.1; obtain ⟨q0, q1⟩ := hS.2.1.two
        go_simp
        exact hK.out _ _ _ rfl rfl rfl (Below.refl _ _)
      simp only [List.setIfInBounds_toArray, List.set_cons_zero, List.set_cons_succ]
      refine obs_step (Eq.trans (by simp only [List.getElem?_toArray, List.getElem?_cons_succ, List.getElem?_cons_zero]; exact rfl) rfl) rfl (fun w' hS hV K hK => ?_) ?_
      · have e4 : x 4 = (.pointer (some ⟨w.heap.size, 1, none⟩)) := hV 4 (by decide)
        have e5 : x 5 = (.slice (some ⟨g2, o2, none⟩) n c) := hV 5 (by decide)
        have e6 : x 6 = (.int .i64 (j)) := hV 6 (by decide)
        have q2 := hS.1; obtain ⟨q0, q1⟩ := hS.2.1.two
        go_simp
        exact hK.out _ _ _ rfl rfl rfl (Below.refl _ _)
      simp only [List.setIfInBounds_toArray, List.set_cons_zero, List.set_cons_succ]
      refine obs_step (Eq.trans (by simp only [List.getElem?_toArray, List.getElem?_cons_succ, List.getElem?_cons_zero]; exact rfl) rfl) rfl (fun w' hS hV K hK => ?_) ?_
      · have e4 : x 4 = (.pointer (some ⟨w.heap.size, 1, none⟩)) := hV 4 (by decide)
        have e5 : x 5 = (.slice (some ⟨g2, o2, none⟩) n c) := hV 5 (by decide)
        have e6 : x 6 = (.int .i64 (j)) := hV 6 (by decide)
        have e7 : x 7 = (.pointer (some ⟨g2, o2 + j, none⟩)) := hV 7 (by decide)
        have q2 := hS.1; obtain ⟨q0, q1⟩ := hS.2.1.two
        go_simp
        exact hK.out _ _ _ rfl rfl rfl (Below.refl _ _)
      simp only [List.setIfInBounds_toArray, List.set_cons_zero, List.set_cons_succ]
      refine obs_step (Eq.trans (by simp only [List.getElem?_toArray, List.getElem?_cons_succ, List.getElem?_cons_zero]; exact rfl) rfl) rfl (fun w' hS hV K hK => ?_) ?_
      · have e3 : x 3 = (.int .i64 (xa)) := hV 3 (by decide)
        have e4 : x 4 = (.pointer (some ⟨w.heap.size, 1, none⟩)) := hV 4 (by decide)
        have e5 : x 5 = (.slice (some ⟨g2, o2, none⟩) n c) := hV 5 (by decide)
        have e6 : x 6 = (.int .i64 (j)) := hV 6 (by decide)
        have e7 : x 7 = (.pointer (some ⟨g2, o2 + j, none⟩)) := hV 7 (by decide)
        have e8 : x 8 = (.int .i64 (ya)) := hV 8 (by decide)
        have q2 := hS.1; obtain ⟨q0, q1⟩ := hS.2.1.two
        go_simp
        exact hK.out _ _ _ rfl rfl rfl (Below.refl _ _)
      simp only [List.setIfInBounds_toArray, List.set_cons_zero, List.set_cons_succ]
      refine obs_step (Eq.trans (by simp only [List.getElem?_toArray, List.getElem?_cons_succ, List.getElem?_cons_zero]; exact rfl) rfl) rfl (fun w' hS hV K hK => ?_) ?_
      · have e1 : x 1 = (.agg #[.int .i64 P, .slice (some ⟨g2, o2, none⟩) n c]) := hV 1 (by decide)
        have e2 : x 2 = (.int .i64 (P)) := hV 2 (by decide)
        have e3 : x 3 = (.int .i64 (xa)) := hV 3 (by decide)
        have e4 : x 4 = (.pointer (some ⟨w.heap.size, 1, none⟩)) := hV 4 (by decide)
        have e5 : x 5 = (.slice (some ⟨g2, o2, none⟩) n c) := hV 5 (by decide)
        have e6 : x 6 = (.int .i64 (j)) := hV 6 (by decide)
        have e7 : x 7 = (.pointer (some ⟨g2, o2 + j, none⟩)) := hV 7 (by decide)
        have e8 : x 8 = (.int .i64 (ya)) := hV 8 (by decide)
        have e9 : x 9 = (.int .i64 (xa * ya)) := hV 9 (by decide)
        have q2 := hS.1; obtain ⟨q0, q1⟩ := hS.2.1.two
        go_simp
        refine (num_any P (xa * ya) _ (by omega) hp2 (by omega) (by omega)).mono ?_
        rintro e v1 ⟨rfl, rfl⟩
        exact hK.out _ _ _ rfl rfl rfl (Below.refl _ _)
      simp only [List.setIfInBounds_toArray, List.set_cons_zero, List.set_cons_succ]
      refine obs_step (Eq.trans (by simp only [List.getElem?_toArray, List.getElem?_cons_succ, List.getElem?_cons_zero]; exact rfl) rfl) rfl (fun w' hS hV K hK => ?_) ?_
      · have e1 : x 1 = (.agg #[.int .i64 P, .slice (some ⟨g2, o2, none⟩) n c]) := hV 1 (by decide)
        have e2 : x 2 = (.int .i64 (P)) := hV 2 (by decide)
        have e3 : x 3 = (.int .i64 (xa)) := hV 3 (by decide)
        have e4 : x 4 = (.pointer (some ⟨w.heap.size, 1, none⟩)) := hV 4 (by decide)
        have e5 : x 5 = (.slice (some ⟨g2, o2, none⟩) n c) := hV 5 (by decide)
        have e6 : x 6 = (.int .i64 (j)) := hV 6 (by decide)
        have e7 : x 7 = (.pointer (some ⟨g2, o2 + j, none⟩)) := hV 7 (by decide)
        have e8 : x 8 = (.int .i64 (ya)) := hV 8 (by decide)
        have e9 : x 9 = (.int .i64 (xa * ya)) := hV 9 (by decide)
        have e10 : x 10 = (.int .i64 (xa * ya % P)) := hV 10 (by decide)
        have q2 := hS.1; obtain ⟨q0, q1⟩ := hS.2.1.two
        go_simp
        exact hK.out _ _ _ rfl rfl ⟨_, rfl, Blk.new _ _ _⟩ ((Below.refl _ _).alloc (Nat.le_refl _) _)
      simp only [List.setIfInBounds_toArray, List.set_cons_zero, List.set_cons_succ]
      refine fun w' hS hV => ?_
      have e0 : x 0 = (.slice A' j c') := hV 0 (by decide)
      have e1 : x 1 = (.agg #[.int .i64 P, .slice (some ⟨g2, o2, none⟩) n c]) := hV 1 (by decide)
      have e2 : x 2 = (.int .i64 (P)) := hV 2 (by decide)
      have e3 : x 3 = (.int .i64 (xa)) := hV 3 (by decide)
      have e4 : x 4 = (.pointer (some ⟨w.heap.size, 1, none⟩)) := hV 4 (by decide)
      have e5 : x 5 = (.slice (some ⟨g2, o2, none⟩) n c) := hV 5 (by decide)
      have e6 : x 6 = (.int .i64 (j)) := hV 6 (by decide)
      have e7 : x 7 = (.pointer (some ⟨g2, o2 + j, none⟩)) := hV 7 (by decide)
      have e8 : x 8 = (.int .i64 (ya)) := hV 8 (by decide)
      have e9 : x 9 = (.int .i64 (xa * ya)) := hV 9 (by decide)
      have e10 : x 10 = (.int .i64 (xa * ya % P)) := hV 10 (by decide)
      obtain ⟨b11, e11, h11⟩ := hV 11 (by decide)
      simp only [e0, e1, e2, e3, e4, e5, e6, e7, e8, e9, e10, e11]
      clear e0 e1 e2 e3 e4 e5 e6 e7 e8 e9 e10 e11
      have s1 := HM.out.below hS.2.2
      have k3 := hS.2.1
      refine any_plain (j := 12) (by kernel_rfl) (Eq.trans (by simp only [List.getElem?_toArray, List.getElem?_cons_succ, List.getElem?_cons_zero]; exact rfl) rfl) rfl (fun K hK => ?_)
      refine wp_app1 w w' 22 2 _ _ Tryz.underlying22 info_i rfl (by omega) _ _ rfl A' j c' _ _ s1 (by omega) rfl _ h11 (by rfl) (by rfl) ?_
      intro A2 c2 w2 hM2 hgr
      refine hK.out _ _ ?_
      simp only [Act.put, List.setIfInBounds_toArray, List.set_cons_zero, List.set_cons_succ]
      refine any_one (j := 13) (by kernel_rfl) (Eq.trans (by simp only [List.getElem?_toArray, List.getElem?_cons_succ, List.getElem?_cons_zero]; exact rfl) rfl) (fun K hK => ?_)
      go_simp
      refine hK.out _ _ (wpAny_done (by kernel_rfl) ?_ _)
      have k4 := k3.grown hgr (s1.2.ne_blk k3 (by decide))
      clear W1 s1 k3 hgr hS
      go_wp2
      go_roundw
      case rel => exact ⟨j + 1, A2, c2, by omega, by go_num, rfl, by rw [HV.out]; simpa [MkI, ints] using hM2, k4⟩
      case measure => simp [intOf]; omega
    · obtain rfl : j = n := by omega
      go_wp2
      go_ret
      exact ⟨_, _, rfl, by rw [HL.out]; exact hM⟩

set_option maxHeartbeats 1600000 in
set_option maxRecDepth 8000 in
theorem pair_any (P : Int) (A : Option Addr) (n c : Nat) (sq : List Int) (X : Option Addr) (cx : Nat) (v : List Int) (Y : Option Addr) (cy : Nat) (u : List Int) (w : World) (hp : 2 ≤ P) (hp2 : P ≤ 13) (hn : n ≤ 6) (ha : Rd w A n (ints sq)) (hs : NumsL P sq) (hx : Rd w X n (ints v)) (hv : NumsL P v) (hy : Rd w Y n (ints u)) (hu : NumsL P u) :
    Calls Tryz.prog 72 #[.agg #[.int .i64 P, .slice A n c], .slice X n cx, .slice Y n cy] w fun e w' => e = .returned (.int .i64 (pairL P sq v u)) ∧ Below w.heap.size w w' := by
  have HPL : Hid (pairL P sq v u = dotL P (weiL P sq v) u) := Lib.hid rfl
  have hB0 : Below w.heap.size w (w.alloc (.cells #[.int .i64 P, .slice A n c] 28)) := (Below.refl _ _).alloc (Nat.le_refl _) _
  have k0 : Blk (w.alloc (.cells #[.int .i64 P, .slice A n c] 28)) w.heap.size 28 #[.int .i64 P, .slice A n c] := Blk.new _ _ _
  go_enter Tryz.func72, Tryz.ntmps72
  go_wp2
  refine wp_obs 8 [[], [0], [], [], [2, 3], [], [0, 1, 2, 3, 4, 5], [0, 1, 2, 3, 4, 5, 6]] [VIs (.agg #[.int .i64 P, .slice A n c]), VIs (.int .i64 (P)), VIs (.agg #[.int .i64 P, .slice A n c]), VIs (.slice X n cx), VSl w n (weiL P sq v), VIs (.slice Y n cy), VIs (.int .i64 (pairL P sq v u)), VIs (.int .i64 (pairL P sq v u))] (fun w' => Blk w' w.heap.size 28 #[.int .i64 P, .slice A n c] ∧ Below w.heap.size w w') (by kernel_rfl) (by kernel_rfl) (fun _ _ h hb => ⟨h.1.below hb h.1.lt, h.2.trans (hb.mono h.2.size)⟩) (⟨k0.drew, hB0.drew⟩) (fun x => ?_)
  refine obs_step (Eq.trans (by simp only [List.getElem?_toArray, List.getElem?_cons_zero]; exact rfl) rfl) rfl (fun w' hS hV K hK => ?_) ?_
  · obtain ⟨q0, q1⟩ := hS.1.two
    go_simp
    exact hK.out _ _ _ rfl rfl rfl (Below.refl _ _)
  simp only [List.setIfInBounds_toArray, List.set_cons_zero, List.set_cons_succ]
  refine obs_step (Eq.trans (by simp only [List.getElem?_toArray, List.getElem?_cons_succ, List.getElem?_cons_zero]; exact rfl) rfl) rfl (fun w' hS hV K hK => ?_) ?_
  · have e0 : x 0 = (.agg #[.int .i64 P, .slice A n c]) := hV 0 (by decide)
    obtain ⟨q0, q1⟩ := hS.1.two
    go_simp
    refine (field_any _ _ _ _ _).mono ?_
    rintro e v1 ⟨rfl, hb⟩
    exact hK.out _ _ _ rfl rfl rfl hb
  simp only [List.setIfInBounds_toArray, List.set_cons_zero, List.set_cons_succ]
  refine obs_step (Eq.trans (by simp only [List.getElem?_toArray, List.getElem?_cons_succ, List.getElem?_cons_zero]; exact rfl) rfl) rfl (fun w' hS hV K hK => ?_) ?_
  · obtain ⟨q0, q1⟩ := hS.1.two
    go_simp
    exact hK.out _ _ _ rfl rfl rfl (Below.refl _ _)
  simp only [List.setIfInBounds_toArray, List.set_cons_zero, List.set_cons_succ]
  refine obs_step (Eq.trans (by simp only [List.getElem?_toArray, List.getElem?_cons_succ, List.getElem?_cons_zero]; exact rfl) rfl) rfl (fun w' hS hV K hK => ?_) ?_
  · obtain ⟨q0, q1⟩ := hS.1.two
    go_simp
    exact hK.out _ _ _ rfl rfl rfl (Below.refl _ _)
  simp only [List.setIfInBounds_toArray, List.set_cons_zero, List.set_cons_succ]
  refine obs_step (Eq.trans (by simp only [List.getElem?_toArray, List.getElem?_cons_succ, List.getElem?_cons_zero]; exact rfl) rfl) rfl (fun w' hS hV K hK => ?_) ?_
  · have e2 : x 2 = (.agg #[.int .i64 P, .slice A n c]) := hV 2 (by decide)
    have e3 : x 3 = (.slice X n cx) := hV 3 (by decide)
    obtain ⟨q0, q1⟩ := hS.1.two
    go_simp
    refine (weighted_any P A n c sq X cx v _ hp hp2 hn (ha.below hS.2) hs (hx.below hS.2) hv).mono ?_
    rintro e v1 ⟨A2, c2, rfl, hM⟩
    exact hK.out _ _ _ rfl rfl ⟨_, _, rfl, hM.after hS.2⟩ hM.b
  simp only [List.setIfInBounds_toArray, List.set_cons_zero, List.set_cons_succ]
  refine obs_step (Eq.trans (by simp only [List.getElem?_toArray, List.getElem?_cons_succ, List.getElem?_cons_zero]; exact rfl) rfl) rfl (fun w' hS hV K hK => ?_) ?_
  · obtain ⟨q0, q1⟩ := hS.1.two
    go_simp
    exact hK.out _ _ _ rfl rfl rfl (Below.refl _ _)
  simp only [List.setIfInBounds_toArray, List.set_cons_zero, List.set_cons_succ]
  refine obs_step (Eq.trans (by simp only [List.getElem?_toArray, List.getElem?_cons_succ, List.getElem?_cons_zero]; exact rfl) rfl) rfl (fun w' hS hV K hK => ?_) ?_
  · have e0 : x 0 = (.agg #[.int .i64 P, .slice A n c]) := hV 0 (by decide)
    have e1 : x 1 = (.int .i64 (P)) := hV 1 (by decide)
    have e2 : x 2 = (.agg #[.int .i64 P, .slice A n c]) := hV 2 (by decide)
    have e3 : x 3 = (.slice X n cx) := hV 3 (by decide)
    obtain ⟨A4, c4, e4, h4⟩ := hV 4 (by decide)
    have e5 : x 5 = (.slice Y n cy) := hV 5 (by decide)
    obtain ⟨q0, q1⟩ := hS.1.two
    go_simp
    refine (dot_any P _ n _ _ n _ (weiL P sq v) u _ hp hp2 (by omega) (Nat.le_refl _) h4.rd (weiL_nums (by omega) _ _) (hy.below hS.2) hu).mono ?_
    rw [← HPL.out]
    rintro e v1 ⟨rfl, rfl⟩
    exact hK.out _ _ _ rfl rfl rfl (Below.refl _ _)
  simp only [List.setIfInBounds_toArray, List.set_cons_zero, List.set_cons_succ]
  refine obs_step (Eq.trans (by simp only [List.getElem?_toArray, List.getElem?_cons_succ, List.getElem?_cons_zero]; exact rfl) rfl) rfl (fun w' hS hV K hK => ?_) ?_
  · have e0 : x 0 = (.agg #[.int .i64 P, .slice A n c]) := hV 0 (by decide)
    have e1 : x 1 = (.int .i64 (P)) := hV 1 (by decide)
    have e2 : x 2 = (.agg #[.int .i64 P, .slice A n c]) := hV 2 (by decide)
    have e3 : x 3 = (.slice X n cx) := hV 3 (by decide)
    obtain ⟨A4, c4, e4, h4⟩ := hV 4 (by decide)
    have e5 : x 5 = (.slice Y n cy) := hV 5 (by decide)
    have e6 : x 6 = (.int .i64 (pairL P sq v u)) := hV 6 (by decide)
    obtain ⟨q0, q1⟩ := hS.1.two
    go_simp
    exact hK.out _ _ _ rfl rfl rfl (Below.refl _ _)
  simp only [List.setIfInBounds_toArray, List.set_cons_zero, List.set_cons_succ]
  refine fun w' hS hV => ?_
  have e0 : x 0 = (.agg #[.int .i64 P, .slice A n c]) := hV 0 (by decide)
  have e1 : x 1 = (.int .i64 (P)) := hV 1 (by decide)
  have e2 : x 2 = (.agg #[.int .i64 P, .slice A n c]) := hV 2 (by decide)
  have e3 : x 3 = (.slice X n cx) := hV 3 (by decide)
  obtain ⟨A4, c4, e4, h4⟩ := hV 4 (by decide)
  have e5 : x 5 = (.slice Y n cy) := hV 5 (by decide)
  have e6 : x 6 = (.int .i64 (pairL P sq v u)) := hV 6 (by decide)
  have e7 : x 7 = (.int .i64 (pairL P sq v u)) := hV 7 (by decide)
  simp only [e0, e1, e2, e3, e4, e5, e6, e7]
  clear e0 e1 e2 e3 e4 e5 e6 e7
  refine wpAny_done (by kernel_rfl) ?_ _
  go_wp2
  go_ret
  exact ⟨rfl, hS.2⟩

set_option maxHeartbeats 3200000 in
set_option maxRecDepth 8000 in
theorem l03Pair_any (P : Int) (A : Option Addr) (n c : Nat) (sq : List Int) (X : Option Addr) (cx : Nat) (v : List Int) (Y : Option Addr) (cy : Nat) (u : List Int) (w : World) (hp : 2 ≤ P) (hp2 : P ≤ 13) (hn : n ≤ 6) (ha : Rd w A n (ints sq)) (hs : NumsL P sq) (hx : Rd w X n (ints v)) (hv : NumsL P v) (hy : Rd w Y n (ints u)) (hu : NumsL P u) :
    Calls Tryz.prog 71 #[.agg #[.int .i64 P, .slice A n c], .slice X n cx, .slice Y n cy] w fun e w' => e = .returned (.int .i64 (pairL P sq v u)) ∧ Below w.heap.size w w' := by
  have HPL : Hid (pairL P sq v u = (sumTo n fun i => v.getD i 0 * u.getD i 0 % P * sq.getD i 0) % P) := Lib.hid (pairL_sum hx.lenI)
  have hB0 : Below w.heap.size w (w.alloc (.cells #[.int .i64 P, .slice A n c] 28)) := (Below.refl _ _).alloc (Nat.le_refl _) _
  have k0 : Blk (w.alloc (.cells #[.int .i64 P, .slice A n c] 28)) w.heap.size 28 #[.int .i64 P, .slice A n c] := Blk.new _ _ _
  go_enter Tryz.func71, Tryz.ntmps71
  go_wp2
  go_loopw [7, 8] (fun s i wr => ∃ j : Nat, j ≤ n ∧ i = .int .i64 j ∧ s = .int .i64 ((sumTo j fun i => v.getD i 0 * u.getD i 0 % P * sq.getD i 0) % P) ∧ Below w.heap.size w wr ∧ Blk wr w.heap.size 28 #[.int .i64 P, .slice A n c]) (fun _ i _ => n - (intOf i).toNat)
  case atStart => exact ⟨0, by omega, rfl, by simp [sumTo], hB0, k0⟩
  case round =>
    obtain ⟨j, hj, rfl, rfl, hB1, k1⟩ := hrel
    clear hB0 k0
    have hsb := emod_small (sumTo j fun i => v.getD i 0 * u.getD i 0 % P * sq.getD i 0) P (by omega)
    have hst := sumTo_step P j fun i => v.getD i 0 * u.getD i 0 % P * sq.getD i 0
    have HEN : Hid (j = n → pairL P sq v u = (sumTo j fun i => v.getD i 0 * u.getD i 0 % P * sq.getD i 0) % P) := Lib.hid (fun h => by rw [HPL.out, h])
    obtain ⟨s, hse⟩ : ∃ s, s = (sumTo j fun i => v.getD i 0 * u.getD i 0 % P * sq.getD i 0) % P := ⟨_, rfl⟩
    rw [← hse] at hsb hst HEN ⊢
    clear hse
    by_cases hlt : j < n
    · obtain ⟨g, o, rfl, hxj, hcx⟩ := (hx.below hB1).int hlt
      obtain ⟨g2, o2, rfl, hyj, hcy⟩ := (hy.below hB1).int hlt
      obtain ⟨g3, o3, rfl, hzj, hcz⟩ := (ha.below hB1).int hlt
      obtain ⟨x1, x2⟩ := hv _ (List.getElem_mem hxj)
      obtain ⟨y1, y2⟩ := hu _ (List.getElem_mem hyj)
      obtain ⟨z1, z2⟩ := hs _ (List.getElem_mem hzj)
      have HST : Hid ((sumTo (j + 1) fun i => v.getD i 0 * u.getD i 0 % P * sq.getD i 0) % P = (s + v[j] * u[j] % P * sq[j]) % P) := Lib.hid (by rw [← hst, getD_of_lt 0 hxj, getD_of_lt 0 hyj, getD_of_lt 0 hzj])
      clear hst
      obtain ⟨xa, hxe⟩ : ∃ xa, xa = v[j] := ⟨_, rfl⟩
      obtain ⟨ya, hye⟩ : ∃ ya, ya = u[j] := ⟨_, rfl⟩
      obtain ⟨za, hze⟩ : ∃ za, za = sq[j] := ⟨_, rfl⟩
      rw [← hxe] at hcx x1 x2 HST
      rw [← hye] at hcy y1 y2 HST
      rw [← hze] at hcz z1 z2 HST
      obtain ⟨m1, m2⟩ := mul_small x1 (show xa ≤ 13 by omega) y1 (show ya ≤ 13 by omega)
      obtain ⟨r1, r2⟩ := emod_small (xa * ya) P (by omega)
      obtain ⟨m3, m4⟩ := mul_small r1 (show xa * ya % P ≤ 13 by omega) z1 (show za ≤ 13 by omega)
      have W1 := i64_fit (xa * ya) (by omega) (by omega)
      have W2 := i64_fit (xa * ya % P * za) (by omega) (by omega)
      have W3 := i64_fit (s + xa * ya % P * za) (by omega) (by omega)
      have T1 := Int.tmod_eq_emod_of_nonneg (b := P) m1
      have T2 := Int.tmod_eq_emod_of_nonneg (a := s + xa * ya % P * za) (b := P) (by omega)
      have hP0 : (P == 0) = false := by simp; omega
      have hP1 : (P == -1) = false := by simp; omega
      have hP2 : ¬ P = 0 := by omega
      have i1 : (0 : Int) ≤ (j : Int) := by omega
      have i2 : (j : Int) < (n : Int) := by omega
      obtain ⟨q0, q1⟩ := k1.two
      clear hxe hye hze hxj hyj hzj
      go_wp2
      refine wp_obs 23 [[], [], [], [1, 2], [1, 2, 3], [], [], [5, 6], [5, 6, 7], [1, 2, 3, 4, 5, 6, 7, 8], [], [10], [1, 2, 3, 4, 5, 6, 7, 8, 9, 10, 11], [], [13], [], [13, 14, 15], [13, 14, 15, 16], [1, 2, 3, 4, 5, 6, 7, 8, 9, 10, 11, 12, 13, 14, 15, 16, 17], [0, 1, 2, 3, 4, 5, 6, 7, 8, 9, 10, 11, 12, 13, 14, 15, 16, 17, 18], [], [20], [0, 1, 2, 3, 4, 5, 6, 7, 8, 9, 10, 11, 12, 13, 14, 15, 16, 17, 18, 19, 20, 21], [0, 1, 2, 3, 4, 5, 6, 7, 8, 9, 10, 11, 12, 13, 14, 15, 16, 17, 18, 19, 20, 21, 22]] [VIs (.int .i64 (s)), VIs (.slice (some ⟨g, o, none⟩) n cx), VIs (.int .i64 (j)), VIs (.pointer (some ⟨g, o + j, none⟩)), VIs (.int .i64 (xa)), VIs (.slice (some ⟨g2, o2, none⟩) n cy), VIs (.int .i64 (j)), VIs (.pointer (some ⟨g2, o2 + j, none⟩)), VIs (.int .i64 (ya)), VIs (.int .i64 (xa * ya)), VIs (.pointer (some ⟨w.heap.size, 0, none⟩)), VIs (.int .i64 (P)), VIs (.int .i64 (xa * ya % P)), VIs (.pointer (some ⟨w.heap.size, 1, none⟩)), VIs (.slice (some ⟨g3, o3, none⟩) n c), VIs (.int .i64 (j)), VIs (.pointer (some ⟨g3, o3 + j, none⟩)), VIs (.int .i64 (za)), VIs (.int .i64 (xa * ya % P * za)), VIs (.int .i64 (s + xa * ya % P * za)), VIs (.pointer (some ⟨w.heap.size, 0, none⟩)), VIs (.int .i64 (P)), VIs (.int .i64 ((s + xa * ya % P * za) % P))] (fun w' => w'.cell? ⟨g, o + j, none⟩ = some (.int .i64 xa) ∧ w'.cell? ⟨g2, o2 + j, none⟩ = some (.int .i64 ya) ∧ w'.cell? ⟨g3, o3 + j, none⟩ = some (.int .i64 za) ∧ Blk w' w.heap.size 28 #[.int .i64 P, .slice (some ⟨g3, o3, none⟩) n c] ∧ Below wr.heap.size wr w') (by kernel_rfl) (by kernel_rfl) (fun _ _ h hb => ⟨(hb.cell (World.block_lt_of_cell? _ _ h.1)).trans h.1, (hb.cell (World.block_lt_of_cell? _ _ h.2.1)).trans h.2.1, (hb.cell (World.block_lt_of_cell? _ _ h.2.2.1)).trans h.2.2.1, h.2.2.2.1.below hb h.2.2.2.1.lt, h.2.2.2.2.trans (hb.mono h.2.2.2.2.size)⟩) (⟨hcx, hcy, hcz, k1.drew, (Below.refl _ _).drew⟩) (fun x => ?_)
      refine obs_step (Eq.trans (by simp only [List.getElem?_toArray, List.getElem?_cons_zero]; exact rfl) rfl) rfl (fun w' hS hV K hK => ?_) ?_
      · have q2 := hS.1; have q3 := hS.2.1; have q4 := hS.2.2.1; obtain ⟨q0, q1⟩ := hS.2.2.2.1.two
        go_simp
        exact hK.out _ _ _ rfl rfl rfl (Below.refl _ _)
      simp only [List.setIfInBounds_toArray, List.set_cons_zero, List.set_cons_succ]
      refine obs_step (Eq.trans (by simp only [List.getElem?_toArray, List.getElem?_cons_succ, List.getElem?_cons_zero]; exact rfl) rfl) rfl (fun w' hS hV K hK => ?_) ?_
      · have q2 := hS.1; have q3 := hS.2.1; have q4 := hS.2.2.1; obtain ⟨q0, q1⟩ := hS.2.2.2.1.two
        go_simp
        exact hK.out _ _ _ rfl rfl rfl (Below.refl _ _)
      simp only [List.setIfInBounds_toArray, List.set_cons_zero, List.set_cons_succ]
      refine obs_step (Eq.trans (by simp only [List.getElem?_toArray, List.getElem?_cons_succ, List.getElem?_cons_zero]; exact rfl) rfl) rfl (fun w' hS hV K hK => ?_) ?_
      · have q2 := hS.1; have q3 := hS.2.1; have q4 := hS.2.2.1; obtain ⟨q0, q1⟩ := hS.2.2.2.1.two
        go_simp
        exact hK.out _ _ _ rfl rfl rfl (Below.refl _ _)
      simp only [List.setIfInBounds_toArray, List.set_cons_zero, List.set_cons_succ]
      refine obs_step (Eq.trans (by simp only [List.getElem?_toArray, List.getElem?_cons_succ, List.getElem?_cons_zero]; exact rfl) rfl) rfl (fun w' hS hV K hK => ?_) ?_
      · have e1 : x 1 = (.slice (some ⟨g, o, none⟩) n cx) := hV 1 (by decide)
        have e2 : x 2 = (.int .i64 (j)) := hV 2 (by decide)
        have q2 := hS.1; have q3 := hS.2.1; have q4 := hS.2.2.1; obtain ⟨q0, q1⟩ := hS.2.2.2.1.two
        go_simp
        exact hK.out _ _ _ rfl rfl rfl (Below.refl _ _)
      simp only [List.setIfInBounds_toArray, List.set_cons_zero, List.set_cons_succ]
      refine obs_step (Eq.trans (by simp only [List.getElem?_toArray, List.getElem?_cons_succ, List.getElem?_cons_zero]; exact rfl) rfl) rfl (fun w' hS hV K hK => ?_) ?_
      · have e1 : x 1 = (.slice (some ⟨g, o, none⟩) n cx) := hV 1 (by decide)
        have e2 : x 2 = (.int .i64 (j)) := hV 2 (by decide)
        have e3 : x 3 = (.pointer (some ⟨g, o + j, none⟩)) := hV 3 (by decide)
        have q2 := hS.1; have q3 := hS.2.1; have q4 := hS.2.2.1; obtain ⟨q0, q1⟩ := hS.2.2.2.1.two
        go_simp
        exact hK.out _ _ _ rfl rfl rfl (Below.refl _ _)
      simp only [List.setIfInBounds_toArray, List.set_cons_zero, List.set_cons_succ]
      refine obs_step (Eq.trans (by simp only [List.getElem?_toArray, List.getElem?_cons_succ, List.getElem?_cons_zero]; exact rfl) rfl) rfl (fun w' hS hV K hK => ?_) ?_
      · have q2 := hS.1; have q3 := hS.2.1; have q4 := hS.2.2.1; obtain ⟨q0, q1⟩ := hS.2.2.2.1.two
        go_simp
        exact hK.out _ _ _ rfl rfl rfl (Below.refl _ _)
      simp only [List.setIfInBounds_toArray, List.set_cons_zero, List.set_cons_succ]
      refine obs_step (Eq.trans (by simp only [List.getElem?_toArray, List.getElem?_cons_succ, List.getElem?_cons_zero]; exact rfl) rfl) rfl (fun w' hS hV K hK => ?_) ?_
      · have q2 := hS.1; have q3 := hS.2.1; have q4 := hS.2.2.1; obtain ⟨q0, q1⟩ := hS.2.2.2.1.two
        go_simp
        exact hK.out _ _ _ rfl rfl rfl (Below.refl _ _)
      simp only [List.setIfInBounds_toArray, List.set_cons_zero, List.set_cons_succ]
      refine obs_step (Eq.trans (by simp only [List.getElem?_toArray, List.getElem?_cons_succ, List.getElem?_cons_zero]; exact rfl) rfl) rfl (fun w' hS hV K hK => ?_) ?_
      · have e5 : x 5 = (.slice (some ⟨g2, o2, none⟩) n cy) := hV 5 (by decide)
        have e6 : x 6 = (.int .i64 (j)) := hV 6 (by decide)
        have q2 := hS.1; have q3 := hS.2.1; have q4 := hS.2.2.1; obtain ⟨q0, q1⟩ := hS.2.2.2.1.two
        go_simp
        exact hK.out _ _ _ rfl rfl rfl (Below.refl _ _)
      simp only [List.setIfInBounds_toArray, List.set_cons_zero, List.set_cons_succ]
      refine obs_step (Eq.trans (by simp only [List.getElem?_toArray, List.getElem?_cons_succ, List.getElem?_cons_zero]; exact rfl) rfl) rfl (fun w' hS hV K hK => ?_) ?_
      · have e5 : x 5 = (.slice (some ⟨g2, o2, none⟩) n cy) := hV 5 (by decide)
        have e6 : x 6 = (.int .i64 (j)) := hV 6 (by decide)
        have e7 : x 7 = (.pointer (some ⟨g2, o2 + j, none⟩)) := hV 7 (by decide)
        have q2 := hS.1; have q3 := hS.2.1; have q4 := hS.2.2.1; obtain ⟨q0, q1⟩ := hS.2.2.2.1.two
        go_simp
        exact hK.out _ _ _ rfl rfl rfl (Below.refl _ _)
      simp only [List.setIfInBounds_toArray, List.set_cons_zero, List.set_cons_succ]
      refine obs_step (Eq.trans (by simp only [List.getElem?_toArray, List.getElem?_cons_succ, List.getElem?_cons_zero]; exact rfl) rfl) rfl (fun w' hS hV K hK => ?_) ?_
      · have e1 : x 1 = (.slice (some ⟨g, o, none⟩) n cx) := hV 1 (by decide)
        have e2 : x 2 = (.int .i64 (j)) := hV 2 (by decide)
        have e3 : x 3 = (.pointer (some ⟨g, o + j, none⟩)) := hV 3 (by decide)
        have e4 : x 4 = (.int .i64 (xa)) := hV 4 (by decide)
        have e5 : x 5 = (.slice (some ⟨g2, o2, none⟩) n cy) := hV 5 (by decide)
        have e6 : x 6 = (.int .i64 (j)) := hV 6 (by decide)
        have e7 : x 7 = (.pointer (some ⟨g2, o2 + j, none⟩)) := hV 7 (by decide)
        have e8 : x 8 = (.int .i64 (ya)) := hV 8 (by decide)
        have q2 := hS.1; have q3 := hS.2.1; have q4 := hS.2.2.1; obtain ⟨q0, q1⟩ := hS.2.2.2.1.two
        go_simp
        exact hK.out _ _ _ rfl rfl rfl (Below.refl _ _)
      simp only [List.setIfInBounds_toArray, List.set_cons_zero, List.set_cons_succ]
      refine obs_step (Eq.trans (by simp only [List.getElem?_toArray, List.getElem?_cons_succ, List.getElem?_cons_zero]; exact rfl) rfl) rfl (fun w' hS hV K hK => ?_) ?_
      · have q2 := hS.1; have q3 := hS.2.1; have q4 := hS.2.2.1; obtain ⟨q0, q1⟩ := hS.2.2.2.1.two
        go_simp
        exact hK.out _ _ _ rfl rfl rfl (Below.refl _ _)
      simp only [List.setIfInBounds_toArray, List.set_cons_zero, List.set_cons_succ]
      refine obs_step (Eq.trans (by simp only [List.getElem?_toArray, List.getElem?_cons_succ, List.getElem?_cons_zero]; exact rfl) rfl) rfl (fun w' hS hV K hK => ?_) ?_
      · have e10 : x 10 = (.pointer (some ⟨w.heap.size, 0, none⟩)) := hV 10 (by decide)
        have q2 := hS.1; have q3 := hS.2.1; have q4 := hS.2.2.1; obtain ⟨q0, q1⟩ := hS.2.2.2.1.two
        go_simp
        exact hK.out _ _ _ rfl rfl rfl (Below.refl _ _)
      simp only [List.setIfInBounds_toArray, List.set_cons_zero, List.set_cons_succ]
      refine obs_step (Eq.trans (by simp only [List.getElem?_toArray, List.getElem?_cons_succ, List.getElem?_cons_zero]; exact rfl) rfl) rfl (fun w' hS hV K hK => ?_) ?_
      · have e1 : x 1 = (.slice (some ⟨g, o, none⟩) n cx) := hV 1 (by decide)
        have e2 : x 2 = (.int .i64 (j)) := hV 2 (by decide)
        have e3 : x 3 = (.pointer (some ⟨g, o + j, none⟩)) := hV 3 (by decide)
        have e4 : x 4 = (.int .i64 (xa)) := hV 4 (by decide)
        have e5 : x 5 = (.slice (some ⟨g2, o2, none⟩) n cy) := hV 5 (by decide)
        have e6 : x 6 = (.int .i64 (j)) := hV 6 (by decide)
        have e7 : x 7 = (.pointer (some ⟨g2, o2 + j, none⟩)) := hV 7 (by decide)
        have e8 : x 8 = (.int .i64 (ya)) := hV 8 (by decide)
        have e9 : x 9 = (.int .i64 (xa * ya)) := hV 9 (by decide)
        have e10 : x 10 = (.pointer (some ⟨w.heap.size, 0, none⟩)) := hV 10 (by decide)
        have e11 : x 11 = (.int .i64 (P)) := hV 11 (by decide)
        have q2 := hS.1; have q3 := hS.2.1; have q4 := hS.2.2.1; obtain ⟨q0, q1⟩ := hS.2.2.2.1.two
        go_simp
        exact hK.out _ _ _ rfl rfl rfl (Below.refl _ _)
      simp only [List.setIfInBounds_toArray, List.set_cons_zero, List.set_cons_succ]
      refine obs_step (Eq.trans (by simp only [List.getElem?_toArray, List.getElem?_cons_succ, List.getElem?_cons_zero]; exact rfl) rfl) rfl (fun w' hS hV K hK => ?_) ?_
      · have q2 := hS.1; have q3 := hS.2.1; have q4 := hS.2.2.1; obtain ⟨q0, q1⟩ := hS.2.2.2.1.two
        go_simp
        exact hK.out _ _ _ rfl rfl rfl (Below.refl _ _)
      simp only [List.setIfInBounds_toArray, List.set_cons_zero, List.set_cons_succ]
      refine obs_step (Eq.trans (by simp only [List.getElem?_toArray, List.getElem?_cons_succ, List.getElem?_cons_zero]; exact rfl) rfl) rfl (fun w' hS hV K hK => ?_) ?_
      · have e13 : x 13 = (.pointer (some ⟨w.heap.size, 1, none⟩)) := hV 13 (by decide)
        have q2 := hS.1; have q3 := hS.2.1; have q4 := hS.2.2.1; obtain ⟨q0, q1⟩ := hS.2.2.2.1.two
        go_simp
        exact hK.out _ _ _ rfl rfl rfl (Below.refl _ _)
      simp only [List.setIfInBounds_toArray, List.set_cons_zero, List.set_cons_succ]
      refine obs_step (Eq.trans (by simp only [List.getElem?_toArray, List.getElem?_cons_succ, List.getElem?_cons_zero]; exact rfl) rfl) rfl (fun w' hS hV K hK => ?_) ?_
      · have q2 := hS.1; have q3 := hS.2.1; have q4 := hS.2.2.1; obtain ⟨q0, q1⟩ := hS.2.2.2.1.two
        go_simp
        exact hK.out _ _ _ rfl rfl rfl (Below.refl _ _)
      simp only [List.setIfInBounds_toArray, List.set_cons_zero, List.set_cons_succ]
      refine obs_step (Eq.trans (by simp only [List.getElem?_toArray, List.getElem?_cons_succ, List.getElem?_cons_zero]; exact rfl) rfl) rfl (fun w' hS hV K hK => ?_) ?_
      · have e13 : x 13 = (.pointer (some ⟨w.heap.size, 1, none⟩)) := hV 13 (by decide)
        have e14 : x 14 = (.slice (some ⟨g3, o3, none⟩) n c) := hV 14 (by decide)
        have e15 : x 15 = (.int .i64 (j)) := hV 15 (by decide)
        have q2 := hS.1; have q3 := hS.2.1; have q4 := hS.2.2.1; obtain ⟨q0, q1⟩ := hS.2.2.2.1.two
        go_simp
        exact hK.out _ _ _ rfl rfl rfl (Below.refl _ _)
      simp only [List.setIfInBounds_toArray, List.set_cons_zero, List.set_cons_succ]
      refine obs_step (Eq.trans (by simp only [List.getElem?_toArray, List.getElem?_cons_succ, List.getElem?_cons_zero]; exact rfl) rfl) rfl (fun w' hS hV K hK => ?_) ?_
      · have e13 : x 13 = (.pointer (some ⟨w.heap.size, 1, none⟩)) := hV 13 (by decide)
        have e14 : x 14 = (.slice (some ⟨g3, o3, none⟩) n c) := hV 14 (by decide)
        have e15 : x 15 = (.int .i64 (j)) := hV 15 (by decide)
        have e16 : x 16 = (.pointer (some ⟨g3, o3 + j, none⟩)) := hV 16 (by decide)
        have q2 := hS.1; have q3 := hS.2.1; have q4 := hS.2.2.1; obtain ⟨q0, q1⟩ := hS.2.2.2.1.two
        go_simp
        exact hK.out _ _ _ rfl rfl rfl (Below.refl _ _)
      simp only [List.setIfInBounds_toArray, List.set_cons_zero, List.set_cons_succ]
      refine obs_step (Eq.trans (by simp only [List.getElem?_toArray, List.getElem?_cons_succ, List.getElem?_cons_zero]; exact rfl) rfl) rfl (fun w' hS hV K hK => ?_) ?_
      · have e1 : x 1 = (.slice (some ⟨g, o, none⟩) n cx) := hV 1 (by decide)
        have e2 : x 2 = (.int .i64 (j)) := hV 2 (by decide)
        have e3 : x 3 = (.pointer (some ⟨g, o + j, none⟩)) := hV 3 (by decide)
        have e4 : x 4 = (.int .i64 (xa)) := hV 4 (by decide)
        have e5 : x 5 = (.slice (some ⟨g2, o2, none⟩) n cy) := hV 5 (by decide)
        have e6 : x 6 = (.int .i64 (j)) := hV 6 (by decide)
        have e7 : x 7 = (.pointer (some ⟨g2, o2 + j, none⟩)) := hV 7 (by decide)
        have e8 : x 8 = (.int .i64 (ya)) := hV 8 (by decide)
        have e9 : x 9 = (.int .i64 (xa * ya)) := hV 9 (by decide)
        have e10 : x 10 = (.pointer (some ⟨w.heap.size, 0, none⟩)) := hV 10 (by decide)
        have e11 : x 11 = (.int .i64 (P)) := hV 11 (by decide)
        have e12 : x 12 = (.int .i64 (xa * ya % P)) := hV 12 (by decide)
        have e13 : x 13 = (.pointer (some ⟨w.heap.size, 1, none⟩)) := hV 13 (by decide)
        have e14 : x 14 = (.slice (some ⟨g3, o3, none⟩) n c) := hV 14 (by decide)
        have e15 : x 15 = (.int .i64 (j)) := hV 15 (by decide)
        have e16 : x 16 = (.pointer (some ⟨g3, o3 + j, none⟩)) := hV 16 (by decide)
        have e17 : x 17 = (.int .i64 (za)) := hV 17 (by decide)
        have q2 := hS.1; have q3 := hS.2.1; have q4 := hS.2.2.1; obtain ⟨q0, q1⟩ := hS.2.2.2.1.two
        go_simp
        exact hK.out _ _ _ rfl rfl rfl (Below.refl _ _)
      simp only [List.setIfInBounds_toArray, List.set_cons_zero, List.set_cons_succ]
      refine obs_step (Eq.trans (by simp only [List.getElem?_toArray, List.getElem?_cons_succ, List.getElem?_cons_zero]; exact rfl) rfl) rfl (fun w' hS hV K hK => ?_) ?_
      · have e0 : x 0 = (.int .i64 (s)) := hV 0 (by decide)
        have e1 : x 1 = (.slice (some ⟨g, o, none⟩) n cx) := hV 1 (by decide)
        have e2 : x 2 = (.int .i64 (j)) := hV 2 (by decide)
        have e3 : x 3 = (.pointer (some ⟨g, o + j, none⟩)) := hV 3 (by decide)
        have e4 : x 4 = (.int .i64 (xa)) := hV 4 (by decide)
        have e5 : x 5 = (.slice (some ⟨g2, o2, none⟩) n cy) := hV 5 (by decide)
        have e6 : x 6 = (.int .i64 (j)) := hV 6 (by decide)
        have e7 : x 7 = (.pointer (some ⟨g2, o2 + j, none⟩)) := hV 7 (by decide)
        have e8 : x 8 = (.int .i64 (ya)) := hV 8 (by decide)
        have e9 : x 9 = (.int .i64 (xa * ya)) := hV 9 (by decide)
        have e10 : x 10 = (.pointer (some ⟨w.heap.size, 0, none⟩)) := hV 10 (by decide)
        have e11 : x 11 = (.int .i64 (P)) := hV 11 (by decide)
        have e12 : x 12 = (.int .i64 (xa * ya % P)) := hV 12 (by decide)
        have e13 : x 13 = (.pointer (some ⟨w.heap.size, 1, none⟩)) := hV 13 (by decide)
        have e14 : x 14 = (.slice (some ⟨g3, o3, none⟩) n c) := hV 14 (by decide)
        have e15 : x 15 = (.int .i64 (j)) := hV 15 (by decide)
        have e16 : x 16 = (.pointer (some ⟨g3, o3 + j, none⟩)) := hV 16 (by decide)
        have e17 : x 17 = (.int .i64 (za)) := hV 17 (by decide)
        have e18 : x 18 = (.int .i64 (xa * ya % P * za)) := hV 18 (by decide)
        have q2 := hS.1; have q3 := hS.2.1; have q4 := hS.2.2.1; obtain ⟨q0, q1⟩ := hS.2.2.2.1.two
        go_simp
        exact hK.out _ _ _ rfl rfl rfl (Below.refl _ _)
      simp only [List.setIfInBounds_toArray, List.set_cons_zero, List.set_cons_succ]
      refine obs_step (Eq.trans (by simp only [List.getElem?_toArray, List.getElem?_cons_succ, List.getElem?_cons_zero]; exact rfl) rfl) rfl (fun w' hS hV K hK => ?_) ?_
      · have q2 := hS.1; have q3 := hS.2.1; have q4 := hS.2.2.1; obtain ⟨q0, q1⟩ := hS.2.2.2.1.two
        go_simp
        exact hK.out _ _ _ rfl rfl rfl (Below.refl _ _)
      simp only [List.setIfInBounds_toArray, List.set_cons_zero, List.set_cons_succ]
      refine obs_step (Eq.trans (by simp only [List.getElem?_toArray, List.getElem?_cons_succ, List.getElem?_cons_zero]; exact rfl) rfl) rfl (fun w' hS hV K hK => ?_) ?_
      · have e20 : x 20 = (.pointer (some ⟨w.heap.size, 0, none⟩)) := hV 20 (by decide)
        have q2 := hS.1; have q3 := hS.2.1; have q4 := hS.2.2.1; obtain ⟨q0, q1⟩ := hS.2.2.2.1.two
        go_simp
        exact hK.out _ _ _ rfl rfl rfl (Below.refl _ _)
      simp only [List.setIfInBounds_toArray, List.set_cons_zero, List.set_cons_succ]
      refine obs_step (Eq.trans (by simp only [List.getElem?_toArray, List.getElem?_cons_succ, List.getElem?_cons_zero]; exact rfl) rfl) rfl (fun w' hS hV K hK => ?_) ?_
      · have e0 : x 0 = (.int .i64 (s)) := hV 0 (by decide)
        have e1 : x 1 = (.slice (some ⟨g, o, none⟩) n cx) := hV 1 (by decide)
        have e2 : x 2 = (.int .i64 (j)) := hV 2 (by decide)
        have e3 : x 3 = (.pointer (some ⟨g, o + j, none⟩)) := hV 3 (by decide)
        have e4 : x 4 = (.int .i64 (xa)) := hV 4 (by decide)
        have e5 : x 5 = (.slice (some ⟨g2, o2, none⟩) n cy) := hV 5 (by decide)
        have e6 : x 6 = (.int .i64 (j)) := hV 6 (by decide)
        have e7 : x 7 = (.pointer (some ⟨g2, o2 + j, none⟩)) := hV 7 (by decide)
        have e8 : x 8 = (.int .i64 (ya)) := hV 8 (by decide)
        have e9 : x 9 = (.int .i64 (xa * ya)) := hV 9 (by decide)
        have e10 : x 10 = (.pointer (some ⟨w.heap.size, 0, none⟩)) := hV 10 (by decide)
        have e11 : x 11 = (.int .i64 (P)) := hV 11 (by decide)
        have e12 : x 12 = (.int .i64 (xa * ya % P)) := hV 12 (by decide)
        have e13 : x 13 = (.pointer (some ⟨w.heap.size, 1, none⟩)) := hV 13 (by decide)
        have e14 : x 14 = (.slice (some ⟨g3, o3, none⟩) n c) := hV 14 (by decide)
        have e15 : x 15 = (.int .i64 (j)) := hV 15 (by decide)
        have e16 : x 16 = (.pointer (some ⟨g3, o3 + j, none⟩)) := hV 16 (by decide)
        have e17 : x 17 = (.int .i64 (za)) := hV 17 (by decide)
        have e18 : x 18 = (.int .i64 (xa * ya % P * za)) := hV 18 (by decide)
        have e19 : x 19 = (.int .i64 (s + xa * ya % P * za)) := hV 19 (by decide)
        have e20 : x 20 = (.pointer (some ⟨w.heap.size, 0, none⟩)) := hV 20 (by decide)
        have e21 : x 21 = (.int .i64 (P)) := hV 21 (by decide)
        have q2 := hS.1; have q3 := hS.2.1; have q4 := hS.2.2.1; obtain ⟨q0, q1⟩ := hS.2.2.2.1.two
        go_simp
        exact hK.out _ _ _ rfl rfl rfl (Below.refl _ _)
      simp only [List.setIfInBounds_toArray, List.set_cons_zero, List.set_cons_succ]
      refine fun w' hS hV => ?_
      have e0 : x 0 = (.int .i64 (s)) := hV 0 (by decide)
      have e1 : x 1 = (.slice (some ⟨g, o, none⟩) n cx) := hV 1 (by decide)
      have e2 : x 2 = (.int .i64 (j)) := hV 2 (by decide)
      have e3 : x 3 = (.pointer (some ⟨g, o + j, none⟩)) := hV 3 (by decide)
      have e4 : x 4 = (.int .i64 (xa)) := hV 4 (by decide)
      have e5 : x 5 = (.slice (some ⟨g2, o2, none⟩) n cy) := hV 5 (by decide)
      have e6 : x 6 = (.int .i64 (j)) := hV 6 (by decide)
      have e7 : x 7 = (.pointer (some ⟨g2, o2 + j, none⟩)) := hV 7 (by decide)
      have e8 : x 8 = (.int .i64 (ya)) := hV 8 (by decide)
      have e9 : x 9 = (.int .i64 (xa * ya)) := hV 9 (by decide)
      have e10 : x 10 = (.pointer (some ⟨w.heap.size, 0, none⟩)) := hV 10 (by decide)
      have e11 : x 11 = (.int .i64 (P)) := hV 11 (by decide)
      have e12 : x 12 = (.int .i64 (xa * ya % P)) := hV 12 (by decide)
      have e13 : x 13 = (.pointer (some ⟨w.heap.size, 1, none⟩)) := hV 13 (by decide)
      have e14 : x 14 = (.slice (some ⟨g3, o3, none⟩) n c) := hV 14 (by decide)
      have e15 : x 15 = (.int .i64 (j)) := hV 15 (by decide)
      have e16 : x 16 = (.pointer (some ⟨g3, o3 + j, none⟩)) := hV 16 (by decide)
      have e17 : x 17 = (.int .i64 (za)) := hV 17 (by decide)
      have e18 : x 18 = (.int .i64 (xa * ya % P * za)) := hV 18 (by decide)
      have e19 : x 19 = (.int .i64 (s + xa * ya % P * za)) := hV 19 (by decide)
      have e20 : x 20 = (.pointer (some ⟨w.heap.size, 0, none⟩)) := hV 20 (by decide)
      have e21 : x 21 = (.int .i64 (P)) := hV 21 (by decide)
      have e22 : x 22 = (.int .i64 ((s + xa * ya % P * za) % P)) := hV 22 (by decide)
      simp only [e0, e1, e2, e3, e4, e5, e6, e7, e8, e9, e10, e11, e12, e13, e14, e15, e16, e17, e18, e19, e20, e21, e22]
      clear e0 e1 e2 e3 e4 e5 e6 e7 e8 e9 e10 e11 e12 e13 e14 e15 e16 e17 e18 e19 e20 e21 e22
      refine any_one (j := 23) (by kernel_rfl) (Eq.trans (by simp only [List.getElem?_toArray, List.getElem?_cons_succ, List.getElem?_cons_zero]; exact rfl) rfl) (fun K hK => ?_)
      go_simp
      refine hK.out _ _ (wpAny_done (by kernel_rfl) ?_ _)
      have k3 := hS.2.2.2.1
      have HB3 := Lib.hid (hB1.trans (hS.2.2.2.2.mono hB1.size))
      clear W1 W2 W3 T1 T2 hS
      go_wp2
      go_roundw
      case rel => exact ⟨j + 1, by omega, by go_num, by rw [HST.out], HB3.out, k3⟩
      case measure => simp [intOf]; omega
    · obtain rfl : j = n := by omega
      clear hst
      go_wp2
      go_ret
      exact ⟨ret_int (HEN.out trivial).symm, hB1⟩
end Go.Proofs.YtommppijnccomaaGreat
