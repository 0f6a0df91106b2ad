/-
  FactorOf: the program's function and the reference's return the same.
-/
import Derived.Test.YtommppijnccomaaGreatBld
import Derived.Test.YtommppijnccomaaGreatNz
namespace Go.Proofs.YtommppijnccomaaGreat
open Go.RowKit

/-- The number of a multivector at the first place of a blade, divided by that of the blade. -/
def facL (P : Int) (xs W : List Int) : Int := xs.getD (leadL W) 0 * invF P (W.getD (leadL W) 0) % P
/-- The blade of the subspace of a multivector. -/
def ownL (P : Int) (sq : List Int) (n : Nat) (xs : List Int) : List Int := blaL P sq n (subL P sq n xs)
theorem ownL_eq (P : Int) (sq : List Int) (n : Nat) (xs : List Int) : blaL P sq n (subL P sq n xs) = ownL P sq n xs := rfl
theorem firstL_lead {xs : List Int} (h : leadL xs < xs.length) : firstL xs = ((leadL xs : Nat) : Int) := by unfold firstL; rw [if_pos h]

/-- FactorOf. -/
def facR (P : Int) (sq : List Int) (xs : List Int) : Int × Int := if codeL P sq [xs] = 0 then (facL P xs (ownL P sq sq.length xs), 0) else (0, codeL P sq [xs])
theorem facR_ok {P : Int} {sq xs : List Int} (h : codeL P sq [xs] = 0) : facR P sq xs = (facL P xs (ownL P sq sq.length xs), 0) := by unfold facR; rw [if_pos h]
theorem facR_bad {P : Int} {sq xs : List Int} (h : ¬ codeL P sq [xs] = 0) : facR P sq xs = (0, codeL P sq [xs]) := by unfold facR; rw [if_neg h]

set_option maxHeartbeats 3200000 in
set_option maxRecDepth 8000 in
theorem FactorOf_any (P : Int) (A : Option Addr) (n c : Nat) (sq : List Int) (X : Option Addr) (m cx : Nat) (xs : List Int) (w : World) (hn : n ≤ 1048576) (hm : m ≤ 1048576) (ha : Rd w A n (ints sq)) (hx : Rd w X m (ints xs)) (hcx : m ≤ cx) :
    Calls Tryz.prog 24 #[.agg #[.int .i64 P, .slice A n c], .slice X m cx] w fun e w' => e = .returned (.tuple #[.int .i64 (facR P sq xs).1, .int .i64 (facR P sq xs).2]) ∧ Below w.heap.size w w' := by
  have hB0 : Below w.heap.size w (w.alloc (.cells #[.int .i64 P, .slice A n c] 28)) := (Below.refl _ _).alloc (Nat.le_refl _) _
  have k0 : Blk (w.alloc (.cells #[.int .i64 P, .slice A n c] 28)) w.heap.size 28 #[.int .i64 P, .slice A n c] := Blk.new _ _ _
  have hB1 : Below w.heap.size w ((w.alloc (.cells #[.int .i64 P, .slice A n c] 28)).alloc (.cells #[.slice X m cx] 22)) := hB0.alloc (by simp) _
  have k1 : Blk ((w.alloc (.cells #[.int .i64 P, .slice A n c] 28)).alloc (.cells #[.slice X m cx] 22)) w.heap.size 28 #[.int .i64 P, .slice A n c] := k0.alloc _
  have hreg := checkBlades_any P A (some ⟨w.heap.size + 1, 0, none⟩) n c 1 1 sq [xs] ((w.alloc (.cells #[.int .i64 P, .slice A n c] 28)).alloc (.cells #[.slice X m cx] 22)) hn (by omega) (ha.below hB1) (rdII_one' (Blk.newAt3 (by simp)) (hx.below hB1) hcx) (all_one (by rw [hx.lenI]; exact hm))
  by_cases hr0 : codeL P sq [xs] = 0
  · skip
    have hcM := (codeL_zero hr0).1
    rw [hr0] at hreg
    have HR0 := Lib.hid hr0
    clear hr0
    obtain ⟨HP, hp, hp2, hd1, hd2, hs0, hms⟩ := codeM_spec3 hcM
    have hsl := ha.lenI
    obtain ⟨hx1, hxs0⟩ := hms xs (by simp)
    have hmx : m = pw n := by rw [← hx.lenI, hx1, hsl]
    subst hmx
    have HSL := Lib.hid hsl
    have HS0 := Lib.hid hs0
    have HXS := Lib.hid hxs0
    have hn6 : n ≤ 6 := by omega
    have hn0 : 0 < n := by omega
    clear hsl hms hx1 hs0 hxs0 hd1 hd2 hcM
    go_enter Tryz.func24, Tryz.ntmps24
    go_wp2_with fail
    refine hreg.mono ?_
    rintro e w2 ⟨rfl, hb2⟩
    have hB2 := hB1.trans (hb2.mono hB1.size)
    have k2 := k1.below hb2 k1.lt
    obtain ⟨q0, q1⟩ := k2.two
    clear k0 hB0 k1 hB1 hb2
    have hpwl : pw n ≤ 64 := pw_le hn6
    have HOK : Hid (facR P sq xs = (facL P xs (ownL P sq n xs), 0)) := Lib.hid (by rw [facR_ok HR0.out, HSL.out])
    have HA := Lib.hid (ha.below hB2)
    have HX := Lib.hid (hx.below hB2)
    have HTB := Lib.hid (subL_tab hp sq n xs)
    have HLE := Lib.hid (subL_len HP sq n xs)
    have hle : leadL (ownL P sq n xs) < pw n := bla_lead HP sq HTB.out
    have HWN : Hid (NumsL P (ownL P sq n xs)) := Lib.hid (blaL_nums hp sq n _)
    go_wp2
    refine wp_obs 6 [[], [], [], [1, 2], [0, 1, 2, 3], [0, 1, 2, 3, 4]] [VIs (.agg #[.int .i64 P, .slice A n c]), VIs (.agg #[.int .i64 P, .slice A n c]), VIs (.slice X (pw n) cx), VMat w2 (subL P sq n xs).length (subL P sq n xs), VSl w2 (pw n) (ownL P sq n xs), VSl w2 (pw n) (ownL P sq n xs)] (fun w' => Blk w' w.heap.size 28 #[.int .i64 P, .slice A n c] ∧ Below w2.heap.size w2 w') (by kernel_rfl) (by kernel_rfl) (fun _ _ h hb => ⟨h.1.below hb h.1.lt, h.2.trans (hb.mono h.2.size)⟩) (⟨k2.drew, (Below.refl _ _).drew⟩) (fun x => ?_)
    refine obs_step (Eq.trans (by simp only [List.getElem?_toArray, List.getElem?_cons_zero]; exact rfl) rfl) rfl (fun w' hS hV K hK => ?_) ?_
    · obtain ⟨q0, q1⟩ := hS.1.two
      go_simp
      exact hK.out _ _ _ rfl rfl rfl (Below.refl _ _)
    simp only [List.setIfInBounds_toArray, List.set_cons_zero, List.set_cons_succ]
    refine obs_step (Eq.trans (by simp only [List.getElem?_toArray, List.getElem?_cons_succ, List.getElem?_cons_zero]; exact rfl) rfl) rfl (fun w' hS hV K hK => ?_) ?_
    · obtain ⟨q0, q1⟩ := hS.1.two
      go_simp
      exact hK.out _ _ _ rfl rfl rfl (Below.refl _ _)
    simp only [List.setIfInBounds_toArray, List.set_cons_zero, List.set_cons_succ]
    refine obs_step (Eq.trans (by simp only [List.getElem?_toArray, List.getElem?_cons_succ, List.getElem?_cons_zero]; exact rfl) rfl) rfl (fun w' hS hV K hK => ?_) ?_
    · obtain ⟨q0, q1⟩ := hS.1.two
      go_simp
      exact hK.out _ _ _ rfl rfl rfl (Below.refl _ _)
    simp only [List.setIfInBounds_toArray, List.set_cons_zero, List.set_cons_succ]
    refine obs_step (Eq.trans (by simp only [List.getElem?_toArray, List.getElem?_cons_succ, List.getElem?_cons_zero]; exact rfl) rfl) rfl (fun w' hS hV K hK => ?_) ?_
    · have e1 : x 1 = (.agg #[.int .i64 P, .slice A n c]) := hV 1 (by decide)
      have e2 : x 2 = (.slice X (pw n) cx) := hV 2 (by decide)
      obtain ⟨q0, q1⟩ := hS.1.two
      go_simp
      refine (subspace_any P A n c sq X cx xs _ HP hn6 hn0 (HA.out.below hS.2) HS0.out (HX.out.below hS.2) HXS.out).mono ?_
      rintro e v1 ⟨A2, c2, rfl, hM⟩
      exact hK.out _ _ _ rfl rfl ⟨_, _, rfl, hM.after hS.2⟩ hM.b
    simp only [List.setIfInBounds_toArray, List.set_cons_zero, List.set_cons_succ]
    refine obs_step (Eq.trans (by simp only [List.getElem?_toArray, List.getElem?_cons_succ, List.getElem?_cons_zero]; exact rfl) rfl) rfl (fun w' hS hV K hK => ?_) ?_
    · have e0 : x 0 = (.agg #[.int .i64 P, .slice A n c]) := hV 0 (by decide)
      have e1 : x 1 = (.agg #[.int .i64 P, .slice A n c]) := hV 1 (by decide)
      have e2 : x 2 = (.slice X (pw n) cx) := hV 2 (by decide)
      obtain ⟨A3, c3, e3, h3⟩ := hV 3 (by decide)
      obtain ⟨q0, q1⟩ := hS.1.two
      go_simp
      refine (bladeOf_any P A n c sq _ _ _ (subL P sq n xs) _ HP hn6 hn0 (by have := HLE.out; omega) (HA.out.below hS.2) HS0.out h3.rd HTB.out).mono ?_
      rw [ownL_eq]
      rintro e v1 ⟨A2, c2, rfl, hM⟩
      exact hK.out _ _ _ rfl rfl ⟨_, _, rfl, hM.after hS.2⟩ hM.b
    simp only [List.setIfInBounds_toArray, List.set_cons_zero, List.set_cons_succ]
    refine obs_step (Eq.trans (by simp only [List.getElem?_toArray, List.getElem?_cons_succ, List.getElem?_cons_zero]; exact rfl) rfl) rfl (fun w' hS hV K hK => ?_) ?_
    · have e0 : x 0 = (.agg #[.int .i64 P, .slice A n c]) := hV 0 (by decide)
      have e1 : x 1 = (.agg #[.int .i64 P, .slice A n c]) := hV 1 (by decide)
      have e2 : x 2 = (.slice X (pw n) cx) := hV 2 (by decide)
      obtain ⟨A3, c3, e3, h3⟩ := hV 3 (by decide)
      obtain ⟨A4, c4, e4, h4⟩ := hV 4 (by decide)
      obtain ⟨q0, q1⟩ := hS.1.two
      go_simp
      exact hK.out _ _ _ rfl rfl ⟨_, _, rfl, h4⟩ (Below.refl _ _)
    simp only [List.setIfInBounds_toArray, List.set_cons_zero, List.set_cons_succ]
    refine fun w' hS hV => ?_
    have e0 : x 0 = (.agg #[.int .i64 P, .slice A n c]) := hV 0 (by decide)
    have e1 : x 1 = (.agg #[.int .i64 P, .slice A n c]) := hV 1 (by decide)
    have e2 : x 2 = (.slice X (pw n) cx) := hV 2 (by decide)
    obtain ⟨A3, c3, e3, h3⟩ := hV 3 (by decide)
    obtain ⟨A4, c4, e4, h4⟩ := hV 4 (by decide)
    obtain ⟨A5, c5, e5, h5⟩ := hV 5 (by decide)
    simp only [e0, e1, e2, e3, e4, e5]
    clear e0 e1 e2 e3 e4 e5
    refine wpAny_done (by kernel_rfl) ?_ _
    obtain ⟨w3, rfl⟩ : ∃ W, W = w' := ⟨_, rfl⟩
    have k3 := hS.1
    have hB3 := hB2.trans (hS.2.mono hB2.size)
    have hM3 := h5
    clear hS k2 h3 h4
    have HKK : Hid (∃ kk : Nat, kk = leadL (ownL P sq n xs)) := Lib.hid ⟨_, rfl⟩
    go_wp2_with fail
    refine (lead_any _ _ _ _ _ (by omega) hM3.rd).mono ?_
    rintro e w4 ⟨rfl, rfl⟩
    have HFL : Hid (facL P xs (ownL P sq n xs) = xs.getD (leadL (ownL P sq n xs)) 0 * invF P ((ownL P sq n xs).getD (leadL (ownL P sq n xs)) 0) % P) := Lib.hid rfl
    have hlw := Rd.lenI hM3.rd
    have HNZ := Lib.hid (leadL_at (ownL P sq n xs) (by omega))
    obtain ⟨W, hW⟩ : ∃ W, W = ownL P sq n xs := ⟨_, rfl⟩
    rw [← hW] at HNZ HFL HOK HWN hM3 hle hlw ⊢
    obtain ⟨kk, hkk⟩ : ∃ kk, kk = leadL W := ⟨_, rfl⟩
    rw [← hkk] at HNZ HFL hle ⊢
    obtain ⟨g1, o1, rfl, hxk, hc1⟩ := (hx.below hB3).int hle
    obtain ⟨g2, o2, e2, hwk, hc2⟩ := (hM3.rd).int hle
    subst e2
    obtain ⟨xa1, xa2⟩ := HXS.out _ (List.getElem_mem hxk)
    obtain ⟨wa1, wa2⟩ := HWN.out _ (List.getElem_mem hwk)
    have HVV : Hid (facL P xs W = xs[kk] * invF P W[kk] % P ∧ W[kk] ≠ 0) := Lib.hid (by have h1 := HFL.out; have h2 := HNZ.out; rw [getD_of_lt 0 hxk, getD_of_lt 0 hwk] at h1; rw [getD_of_lt 0 hwk] at h2; exact ⟨h1, h2⟩)
    obtain ⟨xa, hxa⟩ : ∃ x, x = xs[kk] := ⟨_, rfl⟩
    obtain ⟨wa, hwa⟩ : ∃ x, x = W[kk] := ⟨_, rfl⟩
    rw [← hxa] at hc1 xa1 xa2 HVV
    rw [← hwa] at hc2 wa1 wa2 HVV
    have wa3 : 0 < wa := by have := HVV.out.2; omega
    obtain ⟨i1, i2⟩ := invF_small hp wa
    obtain ⟨m1, m2⟩ := mul_small xa1 (show xa ≤ 13 by omega) i1 (show invF P wa ≤ 13 by omega)
    have W1 := i64_fit (xa * invF P wa) (by omega) (by omega)
    have T1 := Int.tmod_eq_emod_of_nonneg (b := P) m1
    have hP0 : (P == 0) = false := by simp; omega
    have hP1 : (P == -1) = false := by simp; omega
    have hP2 : ¬ P = 0 := by omega
    have j1 : (0 : Int) ≤ (kk : Int) := by omega
    have j2 : (kk : Int) < (pw n : Int) := by omega
    obtain ⟨q0, q1⟩ := k3.two
    obtain ⟨c4, hc4⟩ : ∃ x, x = c5 := ⟨_, rfl⟩
    rw [← hc4]
    clear hxa hwa hxk hwk hkk hW HNZ HFL HWN hlw hM3 hc4
    go_wp2
    refine wp_obs 17 [[], [0], [], [], [2, 3], [2, 3, 4], [], [6], [], [], [8, 9], [8, 9, 10], [6, 7, 8, 9, 10, 11], [2, 3, 4, 5, 6, 7, 8, 9, 10, 11, 12], [0, 1, 2, 3, 4, 5, 6, 7, 8, 9, 10, 11, 12, 13], [0, 1, 2, 3, 4, 5, 6, 7, 8, 9, 10, 11, 12, 13, 14], []] [VIs (.agg #[.int .i64 P, .slice A n c]), VIs (.int .i64 (P)), VIs (.slice (some ⟨g1, o1, none⟩) (pw n) cx), VIs (.int .i64 (kk)), VIs (.pointer (some ⟨g1, o1 + kk, none⟩)), VIs (.int .i64 (xa)), VIs (.agg #[.int .i64 P, .slice A n c]), VIs (.int .i64 (P)), VIs (.slice (some ⟨g2, o2, none⟩) (pw n) c4), VIs (.int .i64 (kk)), VIs (.pointer (some ⟨g2, o2 + kk, none⟩)), VIs (.int .i64 (wa)), VIs (.int .i64 (invF P wa)), VIs (.int .i64 (xa * invF P wa)), VIs (.int .i64 ((xa * invF P wa) % P)), VIs (.int .i64 ((xa * invF P wa) % P)), VIs (.int .i64 0)] (fun w' => w'.cell? ⟨g1, o1 + kk, none⟩ = some (.int .i64 xa) ∧ w'.cell? ⟨g2, o2 + kk, none⟩ = some (.int .i64 wa) ∧ Blk w' w.heap.size 28 #[.int .i64 P, .slice A n c] ∧ Below w3.heap.size w3 w') (by kernel_rfl) (by kernel_rfl) (fun _ _ h hb => ⟨(hb.cell (World.block_lt_of_cell? _ _ h.1)).trans h.1, (hb.cell (World.block_lt_of_cell? _ _ h.2.1)).trans h.2.1, h.2.2.1.below hb h.2.2.1.lt, h.2.2.2.trans (hb.mono h.2.2.2.size)⟩) (⟨hc1, hc2, k3.drew, (Below.refl _ _).drew⟩) (fun x => ?_)
    refine obs_step (Eq.trans (by simp only [List.getElem?_toArray, List.getElem?_cons_zero]; exact rfl) rfl) rfl (fun w' hS hV K hK => ?_) ?_
    · have q2 := hS.1; have q3 := hS.2.1; obtain ⟨q0, q1⟩ := hS.2.2.1.two
      go_simp
      exact hK.out _ _ _ rfl rfl rfl (Below.refl _ _)
    simp only [List.setIfInBounds_toArray, List.set_cons_zero, List.set_cons_succ]
    refine obs_step (Eq.trans (by simp only [List.getElem?_toArray, List.getElem?_cons_succ, List.getElem?_cons_zero]; exact rfl) rfl) rfl (fun w' hS hV K hK => ?_) ?_
    · have e0 : x 0 = (.agg #[.int .i64 P, .slice A n c]) := hV 0 (by decide)
      have q2 := hS.1; have q3 := hS.2.1; obtain ⟨q0, q1⟩ := hS.2.2.1.two
      go_simp
      refine (field_any _ _ _ _ _).mono ?_
      rintro e v1 ⟨rfl, hb⟩
      exact hK.out _ _ _ rfl rfl rfl hb
    simp only [List.setIfInBounds_toArray, List.set_cons_zero, List.set_cons_succ]
    refine obs_step (Eq.trans (by simp only [List.getElem?_toArray, List.getElem?_cons_succ, List.getElem?_cons_zero]; exact rfl) rfl) rfl (fun w' hS hV K hK => ?_) ?_
    · have q2 := hS.1; have q3 := hS.2.1; obtain ⟨q0, q1⟩ := hS.2.2.1.two
      go_simp
      exact hK.out _ _ _ rfl rfl rfl (Below.refl _ _)
    simp only [List.setIfInBounds_toArray, List.set_cons_zero, List.set_cons_succ]
    refine obs_step (Eq.trans (by simp only [List.getElem?_toArray, List.getElem?_cons_succ, List.getElem?_cons_zero]; exact rfl) rfl) rfl (fun w' hS hV K hK => ?_) ?_
    · have q2 := hS.1; have q3 := hS.2.1; obtain ⟨q0, q1⟩ := hS.2.2.1.two
      go_simp
      exact hK.out _ _ _ rfl rfl rfl (Below.refl _ _)
    simp only [List.setIfInBounds_toArray, List.set_cons_zero, List.set_cons_succ]
    refine obs_step (Eq.trans (by simp only [List.getElem?_toArray, List.getElem?_cons_succ, List.getElem?_cons_zero]; exact rfl) rfl) rfl (fun w' hS hV K hK => ?_) ?_
    · have e2 : x 2 = (.slice (some ⟨g1, o1, none⟩) (pw n) cx) := hV 2 (by decide)
      have e3 : x 3 = (.int .i64 (kk)) := hV 3 (by decide)
      have q2 := hS.1; have q3 := hS.2.1; obtain ⟨q0, q1⟩ := hS.2.2.1.two
      go_simp
      exact hK.out _ _ _ rfl rfl rfl (Below.refl _ _)
    simp only [List.setIfInBounds_toArray, List.set_cons_zero, List.set_cons_succ]
    refine obs_step (Eq.trans (by simp only [List.getElem?_toArray, List.getElem?_cons_succ, List.getElem?_cons_zero]; exact rfl) rfl) rfl (fun w' hS hV K hK => ?_) ?_
    · have e2 : x 2 = (.slice (some ⟨g1, o1, none⟩) (pw n) cx) := hV 2 (by decide)
      have e3 : x 3 = (.int .i64 (kk)) := hV 3 (by decide)
      have e4 : x 4 = (.pointer (some ⟨g1, o1 + kk, none⟩)) := hV 4 (by decide)
      have q2 := hS.1; have q3 := hS.2.1; obtain ⟨q0, q1⟩ := hS.2.2.1.two
      go_simp
      exact hK.out _ _ _ rfl rfl rfl (Below.refl _ _)
    simp only [List.setIfInBounds_toArray, List.set_cons_zero, List.set_cons_succ]
    refine obs_step (Eq.trans (by simp only [List.getElem?_toArray, List.getElem?_cons_succ, List.getElem?_cons_zero]; exact rfl) rfl) rfl (fun w' hS hV K hK => ?_) ?_
    · have q2 := hS.1; have q3 := hS.2.1; obtain ⟨q0, q1⟩ := hS.2.2.1.two
      go_simp
      exact hK.out _ _ _ rfl rfl rfl (Below.refl _ _)
    simp only [List.setIfInBounds_toArray, List.set_cons_zero, List.set_cons_succ]
    refine obs_step (Eq.trans (by simp only [List.getElem?_toArray, List.getElem?_cons_succ, List.getElem?_cons_zero]; exact rfl) rfl) rfl (fun w' hS hV K hK => ?_) ?_
    · have e6 : x 6 = (.agg #[.int .i64 P, .slice A n c]) := hV 6 (by decide)
      have q2 := hS.1; have q3 := hS.2.1; obtain ⟨q0, q1⟩ := hS.2.2.1.two
      go_simp
      refine (field_any _ _ _ _ _).mono ?_
      rintro e v1 ⟨rfl, hb⟩
      exact hK.out _ _ _ rfl rfl rfl hb
    simp only [List.setIfInBounds_toArray, List.set_cons_zero, List.set_cons_succ]
    refine obs_step (Eq.trans (by simp only [List.getElem?_toArray, List.getElem?_cons_succ, List.getElem?_cons_zero]; exact rfl) rfl) rfl (fun w' hS hV K hK => ?_) ?_
    · have q2 := hS.1; have q3 := hS.2.1; obtain ⟨q0, q1⟩ := hS.2.2.1.two
      go_simp
      exact hK.out _ _ _ rfl rfl rfl (Below.refl _ _)
    simp only [List.setIfInBounds_toArray, List.set_cons_zero, List.set_cons_succ]
    refine obs_step (Eq.trans (by simp only [List.getElem?_toArray, List.getElem?_cons_succ, List.getElem?_cons_zero]; exact rfl) rfl) rfl (fun w' hS hV K hK => ?_) ?_
    · have q2 := hS.1; have q3 := hS.2.1; obtain ⟨q0, q1⟩ := hS.2.2.1.two
      go_simp
      exact hK.out _ _ _ rfl rfl rfl (Below.refl _ _)
    simp only [List.setIfInBounds_toArray, List.set_cons_zero, List.set_cons_succ]
    refine obs_step (Eq.trans (by simp only [List.getElem?_toArray, List.getElem?_cons_succ, List.getElem?_cons_zero]; exact rfl) rfl) rfl (fun w' hS hV K hK => ?_) ?_
    · have e8 : x 8 = (.slice (some ⟨g2, o2, none⟩) (pw n) c4) := hV 8 (by decide)
      have e9 : x 9 = (.int .i64 (kk)) := hV 9 (by decide)
      have q2 := hS.1; have q3 := hS.2.1; obtain ⟨q0, q1⟩ := hS.2.2.1.two
      go_simp
      exact hK.out _ _ _ rfl rfl rfl (Below.refl _ _)
    simp only [List.setIfInBounds_toArray, List.set_cons_zero, List.set_cons_succ]
    refine obs_step (Eq.trans (by simp only [List.getElem?_toArray, List.getElem?_cons_succ, List.getElem?_cons_zero]; exact rfl) rfl) rfl (fun w' hS hV K hK => ?_) ?_
    · have e8 : x 8 = (.slice (some ⟨g2, o2, none⟩) (pw n) c4) := hV 8 (by decide)
      have e9 : x 9 = (.int .i64 (kk)) := hV 9 (by decide)
      have e10 : x 10 = (.pointer (some ⟨g2, o2 + kk, none⟩)) := hV 10 (by decide)
      have q2 := hS.1; have q3 := hS.2.1; obtain ⟨q0, q1⟩ := hS.2.2.1.two
      go_simp
      exact hK.out _ _ _ rfl rfl rfl (Below.refl _ _)
    simp only [List.setIfInBounds_toArray, List.set_cons_zero, List.set_cons_succ]
    refine obs_step (Eq.trans (by simp only [List.getElem?_toArray, List.getElem?_cons_succ, List.getElem?_cons_zero]; exact rfl) rfl) rfl (fun w' hS hV K hK => ?_) ?_
    · have e6 : x 6 = (.agg #[.int .i64 P, .slice A n c]) := hV 6 (by decide)
      have e7 : x 7 = (.int .i64 (P)) := hV 7 (by decide)
      have e8 : x 8 = (.slice (some ⟨g2, o2, none⟩) (pw n) c4) := hV 8 (by decide)
      have e9 : x 9 = (.int .i64 (kk)) := hV 9 (by decide)
      have e10 : x 10 = (.pointer (some ⟨g2, o2 + kk, none⟩)) := hV 10 (by decide)
      have e11 : x 11 = (.int .i64 (wa)) := hV 11 (by decide)
      have q2 := hS.1; have q3 := hS.2.1; obtain ⟨q0, q1⟩ := hS.2.2.1.two
      go_simp
      refine (inv_any P wa _ hp hp2 wa1 wa2).mono ?_
      rintro e v1 ⟨rfl, rfl⟩
      exact hK.out _ _ _ rfl rfl rfl (Below.refl _ _)
    simp only [List.setIfInBounds_toArray, List.set_cons_zero, List.set_cons_succ]
    refine obs_step (Eq.trans (by simp only [List.getElem?_toArray, List.getElem?_cons_succ, List.getElem?_cons_zero]; exact rfl) rfl) rfl (fun w' hS hV K hK => ?_) ?_
    · have e2 : x 2 = (.slice (some ⟨g1, o1, none⟩) (pw n) cx) := hV 2 (by decide)
      have e3 : x 3 = (.int .i64 (kk)) := hV 3 (by decide)
      have e4 : x 4 = (.pointer (some ⟨g1, o1 + kk, none⟩)) := hV 4 (by decide)
      have e5 : x 5 = (.int .i64 (xa)) := hV 5 (by decide)
      have e6 : x 6 = (.agg #[.int .i64 P, .slice A n c]) := hV 6 (by decide)
      have e7 : x 7 = (.int .i64 (P)) := hV 7 (by decide)
      have e8 : x 8 = (.slice (some ⟨g2, o2, none⟩) (pw n) c4) := hV 8 (by decide)
      have e9 : x 9 = (.int .i64 (kk)) := hV 9 (by decide)
      have e10 : x 10 = (.pointer (some ⟨g2, o2 + kk, none⟩)) := hV 10 (by decide)
      have e11 : x 11 = (.int .i64 (wa)) := hV 11 (by decide)
      have e12 : x 12 = (.int .i64 (invF P wa)) := hV 12 (by decide)
      have q2 := hS.1; have q3 := hS.2.1; obtain ⟨q0, q1⟩ := hS.2.2.1.two
      go_simp
      exact hK.out _ _ _ rfl rfl rfl (Below.refl _ _)
    simp only [List.setIfInBounds_toArray, List.set_cons_zero, List.set_cons_succ]
    refine obs_step (Eq.trans (by simp only [List.getElem?_toArray, List.getElem?_cons_succ, List.getElem?_cons_zero]; exact rfl) rfl) rfl (fun w' hS hV K hK => ?_) ?_
    · have e0 : x 0 = (.agg #[.int .i64 P, .slice A n c]) := hV 0 (by decide)
      have e1 : x 1 = (.int .i64 (P)) := hV 1 (by decide)
      have e2 : x 2 = (.slice (some ⟨g1, o1, none⟩) (pw n) cx) := hV 2 (by decide)
      have e3 : x 3 = (.int .i64 (kk)) := hV 3 (by decide)
      have e4 : x 4 = (.pointer (some ⟨g1, o1 + kk, none⟩)) := hV 4 (by decide)
      have e5 : x 5 = (.int .i64 (xa)) := hV 5 (by decide)
      have e6 : x 6 = (.agg #[.int .i64 P, .slice A n c]) := hV 6 (by decide)
      have e7 : x 7 = (.int .i64 (P)) := hV 7 (by decide)
      have e8 : x 8 = (.slice (some ⟨g2, o2, none⟩) (pw n) c4) := hV 8 (by decide)
      have e9 : x 9 = (.int .i64 (kk)) := hV 9 (by decide)
      have e10 : x 10 = (.pointer (some ⟨g2, o2 + kk, none⟩)) := hV 10 (by decide)
      have e11 : x 11 = (.int .i64 (wa)) := hV 11 (by decide)
      have e12 : x 12 = (.int .i64 (invF P wa)) := hV 12 (by decide)
      have e13 : x 13 = (.int .i64 (xa * invF P wa)) := hV 13 (by decide)
      have q2 := hS.1; have q3 := hS.2.1; obtain ⟨q0, q1⟩ := hS.2.2.1.two
      go_simp
      refine (num_any P (xa * invF P wa) _ (by omega) hp2 (by omega) (by omega)).mono ?_
      rintro e v1 ⟨rfl, rfl⟩
      exact hK.out _ _ _ rfl rfl rfl (Below.refl _ _)
    simp only [List.setIfInBounds_toArray, List.set_cons_zero, List.set_cons_succ]
    refine obs_step (Eq.trans (by simp only [List.getElem?_toArray, List.getElem?_cons_succ, List.getElem?_cons_zero]; exact rfl) rfl) rfl (fun w' hS hV K hK => ?_) ?_
    · have e0 : x 0 = (.agg #[.int .i64 P, .slice A n c]) := hV 0 (by decide)
      have e1 : x 1 = (.int .i64 (P)) := hV 1 (by decide)
      have e2 : x 2 = (.slice (some ⟨g1, o1, none⟩) (pw n) cx) := hV 2 (by decide)
      have e3 : x 3 = (.int .i64 (kk)) := hV 3 (by decide)
      have e4 : x 4 = (.pointer (some ⟨g1, o1 + kk, none⟩)) := hV 4 (by decide)
      have e5 : x 5 = (.int .i64 (xa)) := hV 5 (by decide)
      have e6 : x 6 = (.agg #[.int .i64 P, .slice A n c]) := hV 6 (by decide)
      have e7 : x 7 = (.int .i64 (P)) := hV 7 (by decide)
      have e8 : x 8 = (.slice (some ⟨g2, o2, none⟩) (pw n) c4) := hV 8 (by decide)
      have e9 : x 9 = (.int .i64 (kk)) := hV 9 (by decide)
      have e10 : x 10 = (.pointer (some ⟨g2, o2 + kk, none⟩)) := hV 10 (by decide)
      have e11 : x 11 = (.int .i64 (wa)) := hV 11 (by decide)
      have e12 : x 12 = (.int .i64 (invF P wa)) := hV 12 (by decide)
      have e13 : x 13 = (.int .i64 (xa * invF P wa)) := hV 13 (by decide)
      have e14 : x 14 = (.int .i64 ((xa * invF P wa) % P)) := hV 14 (by decide)
      have q2 := hS.1; have q3 := hS.2.1; obtain ⟨q0, q1⟩ := hS.2.2.1.two
      go_simp
      exact hK.out _ _ _ rfl rfl rfl (Below.refl _ _)
    simp only [List.setIfInBounds_toArray, List.set_cons_zero, List.set_cons_succ]
    refine obs_step (Eq.trans (by simp only [List.getElem?_toArray, List.getElem?_cons_succ, List.getElem?_cons_zero]; exact rfl) rfl) rfl (fun w' hS hV K hK => ?_) ?_
    · have q2 := hS.1; have q3 := hS.2.1; obtain ⟨q0, q1⟩ := hS.2.2.1.two
      go_simp
      exact hK.out _ _ _ rfl rfl rfl (Below.refl _ _)
    simp only [List.setIfInBounds_toArray, List.set_cons_zero, List.set_cons_succ]
    refine fun w' hS hV => ?_
    have e0 : x 0 = (.agg #[.int .i64 P, .slice A n c]) := hV 0 (by decide)
    have e1 : x 1 = (.int .i64 (P)) := hV 1 (by decide)
    have e2 : x 2 = (.slice (some ⟨g1, o1, none⟩) (pw n) cx) := hV 2 (by decide)
    have e3 : x 3 = (.int .i64 (kk)) := hV 3 (by decide)
    have e4 : x 4 = (.pointer (some ⟨g1, o1 + kk, none⟩)) := hV 4 (by decide)
    have e5 : x 5 = (.int .i64 (xa)) := hV 5 (by decide)
    have e6 : x 6 = (.agg #[.int .i64 P, .slice A n c]) := hV 6 (by decide)
    have e7 : x 7 = (.int .i64 (P)) := hV 7 (by decide)
    have e8 : x 8 = (.slice (some ⟨g2, o2, none⟩) (pw n) c4) := hV 8 (by decide)
    have e9 : x 9 = (.int .i64 (kk)) := hV 9 (by decide)
    have e10 : x 10 = (.pointer (some ⟨g2, o2 + kk, none⟩)) := hV 10 (by decide)
    have e11 : x 11 = (.int .i64 (wa)) := hV 11 (by decide)
    have e12 : x 12 = (.int .i64 (invF P wa)) := hV 12 (by decide)
    have e13 : x 13 = (.int .i64 (xa * invF P wa)) := hV 13 (by decide)
    have e14 : x 14 = (.int .i64 ((xa * invF P wa) % P)) := hV 14 (by decide)
    have e15 : x 15 = (.int .i64 ((xa * invF P wa) % P)) := hV 15 (by decide)
    have e16 : x 16 = (.int .i64 0) := hV 16 (by decide)
    simp only [e0, e1, e2, e3, e4, e5, e6, e7, e8, e9, e10, e11, e12, e13, e14, e15, e16]
    clear e0 e1 e2 e3 e4 e5 e6 e7 e8 e9 e10 e11 e12 e13 e14 e15 e16
    refine wpAny_done (by kernel_rfl) ?_ _
    have HB4 := Lib.hid (hB3.trans (hS.2.2.2.mono hB3.size))
    clear hS W1 T1
    go_wp2
    go_ret2
    exact ⟨ret_ii3 (by rw [HOK.out, HVV.out.1]), HB4.out⟩
  · obtain ⟨r, hr⟩ : ∃ r, r = codeL P sq [xs] := ⟨_, rfl⟩
    have HR := Lib.hid hr
    have HR0 := Lib.hid hr0
    have b0 : (r != 0) = true := code_ne (by rw [hr]; exact hr0)
    rw [← hr] at hreg
    clear hr hr0
    go_enter Tryz.func24, Tryz.ntmps24
    go_wp2_with fail
    refine hreg.mono ?_
    rintro e w2 ⟨rfl, hb2⟩
    have hB2 := hB1.trans (hb2.mono hB1.size)
    have k2 := k1.below hb2 k1.lt
    obtain ⟨q0, q1⟩ := k2.two
    clear k0 hB0 k1 hB1 hb2
    go_wp2
    go_ret2
    exact ⟨ret_ii3 (by rw [facR_bad HR0.out, HR.out]), hB2⟩

set_option maxHeartbeats 3200000 in
set_option maxRecDepth 8000 in
theorem specFactorOf_any (P : Int) (A : Option Addr) (n c : Nat) (sq : List Int) (X : Option Addr) (m cx : Nat) (xs : List Int) (w : World) (hn : n ≤ 1048576) (hm : m ≤ 1048576) (ha : Rd w A n (ints sq)) (hx : Rd w X m (ints xs)) (hcx : m ≤ cx) :
    Calls Tryz.prog 23 #[.agg #[.int .i64 P, .slice A n c], .slice X m cx] w fun e w' => e = .returned (.tuple #[.int .i64 (facR P sq xs).1, .int .i64 (facR P sq xs).2]) ∧ Below w.heap.size w w' := by
  have hB0 : Below w.heap.size w (w.alloc (.cells #[.int .i64 P, .slice A n c] 28)) := (Below.refl _ _).alloc (Nat.le_refl _) _
  have k0 : Blk (w.alloc (.cells #[.int .i64 P, .slice A n c] 28)) w.heap.size 28 #[.int .i64 P, .slice A n c] := Blk.new _ _ _
  have hB1 : Below w.heap.size w ((w.alloc (.cells #[.int .i64 P, .slice A n c] 28)).alloc (.cells #[.slice X m cx] 22)) := hB0.alloc (by simp) _
  have k1 : Blk ((w.alloc (.cells #[.int .i64 P, .slice A n c] 28)).alloc (.cells #[.slice X m cx] 22)) w.heap.size 28 #[.int .i64 P, .slice A n c] := k0.alloc _
  have hreg := l06Code_any P A (some ⟨w.heap.size + 1, 0, none⟩) n c 1 1 sq [xs] ((w.alloc (.cells #[.int .i64 P, .slice A n c] 28)).alloc (.cells #[.slice X m cx] 22)) hn (by omega) (ha.below hB1) (rdII_one' (Blk.newAt3 (by simp)) (hx.below hB1) hcx) (all_one (by rw [hx.lenI]; exact hm))
  by_cases hr0 : codeL P sq [xs] = 0
  · skip
    have hcM := (codeL_zero hr0).1
    rw [hr0] at hreg
    have HR0 := Lib.hid hr0
    clear hr0
    obtain ⟨HP, hp, hp2, hd1, hd2, hs0, hms⟩ := codeM_spec3 hcM
    have hsl := ha.lenI
    obtain ⟨hx1, hxs0⟩ := hms xs (by simp)
    have hmx : m = pw n := by rw [← hx.lenI, hx1, hsl]
    subst hmx
    have HSL := Lib.hid hsl
    have HS0 := Lib.hid hs0
    have HXS := Lib.hid hxs0
    have hn6 : n ≤ 6 := by omega
    have hn0 : 0 < n := by omega
    clear hsl hms hx1 hs0 hxs0 hd1 hd2 hcM
    go_enter Tryz.func23, Tryz.ntmps23
    go_wp2_with fail
    refine hreg.mono ?_
    rintro e w2 ⟨rfl, hb2⟩
    have hB2 := hB1.trans (hb2.mono hB1.size)
    have k2 := k1.below hb2 k1.lt
    obtain ⟨q0, q1⟩ := k2.two
    clear k0 hB0 k1 hB1 hb2
    have hpwl : pw n ≤ 64 := pw_le hn6
    have HOK : Hid (facR P sq xs = (facL P xs (ownL P sq n xs), 0)) := Lib.hid (by rw [facR_ok HR0.out, HSL.out])
    have HA := Lib.hid (ha.below hB2)
    have HX := Lib.hid (hx.below hB2)
    have HTB := Lib.hid (subL_tab hp sq n xs)
    have HLE := Lib.hid (subL_len HP sq n xs)
    have hle : leadL (ownL P sq n xs) < pw n := bla_lead HP sq HTB.out
    have HWN : Hid (NumsL P (ownL P sq n xs)) := Lib.hid (blaL_nums hp sq n _)
    go_wp2
    refine wp_obs 6 [[], [], [], [1, 2], [0, 1, 2, 3], [0, 1, 2, 3, 4]] [VIs (.agg #[.int .i64 P, .slice A n c]), VIs (.agg #[.int .i64 P, .slice A n c]), VIs (.slice X (pw n) cx), VMat w2 (subL P sq n xs).length (subL P sq n xs), VSl w2 (pw n) (ownL P sq n xs), VSl w2 (pw n) (ownL P sq n xs)] (fun w' => Blk w' w.heap.size 28 #[.int .i64 P, .slice A n c] ∧ Below w2.heap.size w2 w') (by kernel_rfl) (by kernel_rfl) (fun _ _ h hb => ⟨h.1.below hb h.1.lt, h.2.trans (hb.mono h.2.size)⟩) (⟨k2.drew, (Below.refl _ _).drew⟩) (fun x => ?_)
    refine obs_step (Eq.trans (by simp only [List.getElem?_toArray, List.getElem?_cons_zero]; exact rfl) rfl) rfl (fun w' hS hV K hK => ?_) ?_
    · obtain ⟨q0, q1⟩ := hS.1.two
      go_simp
      exact hK.out _ _ _ rfl rfl rfl (Below.refl _ _)
    simp only [List.setIfInBounds_toArray, List.set_cons_zero, List.set_cons_succ]
    refine obs_step (Eq.trans (by simp only [List.getElem?_toArray, List.getElem?_cons_succ, List.getElem?_cons_zero]; exact rfl) rfl) rfl (fun w' hS hV K hK => ?_) ?_
    · obtain ⟨q0, q1⟩ := hS.1.two
      go_simp
      exact hK.out _ _ _ rfl rfl rfl (Below.refl _ _)
    simp only [List.setIfInBounds_toArray, List.set_cons_zero, List.set_cons_succ]
    refine obs_step (Eq.trans (by simp only [List.getElem?_toArray, List.getElem?_cons_succ, List.getElem?_cons_zero]; exact rfl) rfl) rfl (fun w' hS hV K hK => ?_) ?_
    · obtain ⟨q0, q1⟩ := hS.1.two
      go_simp
      exact hK.out _ _ _ rfl rfl rfl (Below.refl _ _)
    simp only [List.setIfInBounds_toArray, List.set_cons_zero, List.set_cons_succ]
    refine obs_step (Eq.trans (by simp only [List.getElem?_toArray, List.getElem?_cons_succ, List.getElem?_cons_zero]; exact rfl) rfl) rfl (fun w' hS hV K hK => ?_) ?_
    · have e1 : x 1 = (.agg #[.int .i64 P, .slice A n c]) := hV 1 (by decide)
      have e2 : x 2 = (.slice X (pw n) cx) := hV 2 (by decide)
      obtain ⟨q0, q1⟩ := hS.1.two
      go_simp
      refine (l06Subspace_any P A n c sq X cx xs _ HP hn6 hn0 (HA.out.below hS.2) HS0.out (HX.out.below hS.2) HXS.out).mono ?_
      rintro e v1 ⟨A2, c2, rfl, hM⟩
      exact hK.out _ _ _ rfl rfl ⟨_, _, rfl, hM.after hS.2⟩ hM.b
    simp only [List.setIfInBounds_toArray, List.set_cons_zero, List.set_cons_succ]
    refine obs_step (Eq.trans (by simp only [List.getElem?_toArray, List.getElem?_cons_succ, List.getElem?_cons_zero]; exact rfl) rfl) rfl (fun w' hS hV K hK => ?_) ?_
    · have e0 : x 0 = (.agg #[.int .i64 P, .slice A n c]) := hV 0 (by decide)
      have e1 : x 1 = (.agg #[.int .i64 P, .slice A n c]) := hV 1 (by decide)
      have e2 : x 2 = (.slice X (pw n) cx) := hV 2 (by decide)
      obtain ⟨A3, c3, e3, h3⟩ := hV 3 (by decide)
      obtain ⟨q0, q1⟩ := hS.1.two
      go_simp
      refine (l06Blade_any P A n c sq _ _ _ (subL P sq n xs) _ HP hn6 hn0 (by have := HLE.out; omega) (HA.out.below hS.2) HS0.out h3.rd HTB.out).mono ?_
      rw [ownL_eq]
      rintro e v1 ⟨A2, c2, rfl, hM⟩
      exact hK.out _ _ _ rfl rfl ⟨_, _, rfl, hM.after hS.2⟩ hM.b
    simp only [List.setIfInBounds_toArray, List.set_cons_zero, List.set_cons_succ]
    refine obs_step (Eq.trans (by simp only [List.getElem?_toArray, List.getElem?_cons_succ, List.getElem?_cons_zero]; exact rfl) rfl) rfl (fun w' hS hV K hK => ?_) ?_
    · have e0 : x 0 = (.agg #[.int .i64 P, .slice A n c]) := hV 0 (by decide)
      have e1 : x 1 = (.agg #[.int .i64 P, .slice A n c]) := hV 1 (by decide)
      have e2 : x 2 = (.slice X (pw n) cx) := hV 2 (by decide)
      obtain ⟨A3, c3, e3, h3⟩ := hV 3 (by decide)
      obtain ⟨A4, c4, e4, h4⟩ := hV 4 (by decide)
      obtain ⟨q0, q1⟩ := hS.1.two
      go_simp
      exact hK.out _ _ _ rfl rfl ⟨_, _, rfl, h4⟩ (Below.refl _ _)
    simp only [List.setIfInBounds_toArray, List.set_cons_zero, List.set_cons_succ]
    refine fun w' hS hV => ?_
    have e0 : x 0 = (.agg #[.int .i64 P, .slice A n c]) := hV 0 (by decide)
    have e1 : x 1 = (.agg #[.int .i64 P, .slice A n c]) := hV 1 (by decide)
    have e2 : x 2 = (.slice X (pw n) cx) := hV 2 (by decide)
    obtain ⟨A3, c3, e3, h3⟩ := hV 3 (by decide)
    obtain ⟨A4, c4, e4, h4⟩ := hV 4 (by decide)
    obtain ⟨A5, c5, e5, h5⟩ := hV 5 (by decide)
    simp only [e0, e1, e2, e3, e4, e5]
    clear e0 e1 e2 e3 e4 e5
    refine wpAny_done (by kernel_rfl) ?_ _
    obtain ⟨w3, rfl⟩ : ∃ W, W = w' := ⟨_, rfl⟩
    have k3 := hS.1
    have hB3 := hB2.trans (hS.2.mono hB2.size)
    have hM3 := h5
    clear hS k2 h3 h4
    have HKK : Hid (∃ kk : Nat, kk = leadL (ownL P sq n xs)) := Lib.hid ⟨_, rfl⟩
    go_wp2_with fail
    refine (l02First_any _ _ _ _ _ (by omega) hM3.rd).mono ?_
    rw [firstL_lead (by rw [Rd.lenI hM3.rd]; exact hle)]
    rintro e w4 ⟨rfl, rfl⟩
    have HFL : Hid (facL P xs (ownL P sq n xs) = xs.getD (leadL (ownL P sq n xs)) 0 * invF P ((ownL P sq n xs).getD (leadL (ownL P sq n xs)) 0) % P) := Lib.hid rfl
    have hlw := Rd.lenI hM3.rd
    have HNZ := Lib.hid (leadL_at (ownL P sq n xs) (by omega))
    obtain ⟨W, hW⟩ : ∃ W, W = ownL P sq n xs := ⟨_, rfl⟩
    rw [← hW] at HNZ HFL HOK HWN hM3 hle hlw ⊢
    obtain ⟨kk, hkk⟩ : ∃ kk, kk = leadL W := ⟨_, rfl⟩
    rw [← hkk] at HNZ HFL hle ⊢
    obtain ⟨g1, o1, rfl, hxk, hc1⟩ := (hx.below hB3).int hle
    obtain ⟨g2, o2, e2, hwk, hc2⟩ := (hM3.rd).int hle
    subst e2
    obtain ⟨xa1, xa2⟩ := HXS.out _ (List.getElem_mem hxk)
    obtain ⟨wa1, wa2⟩ := HWN.out _ (List.getElem_mem hwk)
    have HVV : Hid (facL P xs W = xs[kk] * invF P W[kk] % P ∧ W[kk] ≠ 0) := Lib.hid (by have h1 := HFL.out; have h2 := HNZ.out; rw [getD_of_lt 0 hxk, getD_of_lt 0 hwk] at h1; rw [getD_of_lt 0 hwk] at h2; exact ⟨h1, h2⟩)
    obtain ⟨xa, hxa⟩ : ∃ x, x = xs[kk] := ⟨_, rfl⟩
    obtain ⟨wa, hwa⟩ : ∃ x, x = W[kk] := ⟨_, rfl⟩
    rw [← hxa] at hc1 xa1 xa2 HVV
    rw [← hwa] at hc2 wa1 wa2 HVV
    have wa3 : 0 < wa := by have := HVV.out.2; omega
    obtain ⟨i1, i2⟩ := invF_small hp wa
    obtain ⟨m1, m2⟩ := mul_small xa1 (show xa ≤ 13 by omega) i1 (show invF P wa ≤ 13 by omega)
    have W1 := i64_fit (xa * invF P wa) (by omega) (by omega)
    have T1 := Int.tmod_eq_emod_of_nonneg (b := P) m1
    have hP0 : (P == 0) = false := by simp; omega
    have hP1 : (P == -1) = false := by simp; omega
    have hP2 : ¬ P = 0 := by omega
    have j1 : (0 : Int) ≤ (kk : Int) := by omega
    have j2 : (kk : Int) < (pw n : Int) := by omega
    obtain ⟨q0, q1⟩ := k3.two
    obtain ⟨c4, hc4⟩ : ∃ x, x = c5 := ⟨_, rfl⟩
    rw [← hc4]
    clear hxa hwa hxk hwk hkk hW HNZ HFL HWN hlw hM3 hc4
    go_wp2
    refine wp_obs 17 [[], [], [0, 1], [0, 1, 2], [], [4], [], [], [6, 7], [6, 7, 8], [4, 5, 6, 7, 8, 9], [0, 1, 2, 3, 4, 5, 6, 7, 8, 9, 10], [], [12], [0, 1, 2, 3, 4, 5, 6, 7, 8, 9, 10, 11, 12, 13], [0, 1, 2, 3, 4, 5, 6, 7, 8, 9, 10, 11, 12, 13, 14], []] [VIs (.slice (some ⟨g1, o1, none⟩) (pw n) cx), VIs (.int .i64 (kk)), VIs (.pointer (some ⟨g1, o1 + kk, none⟩)), VIs (.int .i64 (xa)), VIs (.pointer (some ⟨w.heap.size, 0, none⟩)), VIs (.int .i64 (P)), VIs (.slice (some ⟨g2, o2, none⟩) (pw n) c4), VIs (.int .i64 (kk)), VIs (.pointer (some ⟨g2, o2 + kk, none⟩)), VIs (.int .i64 (wa)), VIs (.int .i64 (invF P wa)), VIs (.int .i64 (xa * invF P wa)), VIs (.pointer (some ⟨w.heap.size, 0, none⟩)), VIs (.int .i64 (P)), VIs (.int .i64 ((xa * invF P wa) % P)), VIs (.int .i64 ((xa * invF P wa) % P)), VIs (.int .i64 0)] (fun w' => w'.cell? ⟨g1, o1 + kk, none⟩ = some (.int .i64 xa) ∧ w'.cell? ⟨g2, o2 + kk, none⟩ = some (.int .i64 wa) ∧ Blk w' w.heap.size 28 #[.int .i64 P, .slice A n c] ∧ Below w3.heap.size w3 w') (by kernel_rfl) (by kernel_rfl) (fun _ _ h hb => ⟨(hb.cell (World.block_lt_of_cell? _ _ h.1)).trans h.1, (hb.cell (World.block_lt_of_cell? _ _ h.2.1)).trans h.2.1, h.2.2.1.below hb h.2.2.1.lt, h.2.2.2.trans (hb.mono h.2.2.2.size)⟩) (⟨hc1, hc2, k3.drew, (Below.refl _ _).drew⟩) (fun x => ?_)
    refine obs_step (Eq.trans (by simp only [List.getElem?_toArray, List.getElem?_cons_zero]; exact rfl) rfl) rfl (fun w' hS hV K hK => ?_) ?_
    · have q2 := hS.1; have q3 := hS.2.1; obtain ⟨q0, q1⟩ := hS.2.2.1.two
      go_simp
      exact hK.out _ _ _ rfl rfl rfl (Below.refl _ _)
    simp only [List.setIfInBounds_toArray, List.set_cons_zero, List.set_cons_succ]
    refine obs_step (Eq.trans (by simp only [List.getElem?_toArray, List.getElem?_cons_succ, List.getElem?_cons_zero]; exact rfl) rfl) rfl (fun w' hS hV K hK => ?_) ?_
    · have q2 := hS.1; have q3 := hS.2.1; obtain ⟨q0, q1⟩ := hS.2.2.1.two
      go_simp
      exact hK.out _ _ _ rfl rfl rfl (Below.refl _ _)
    simp only [List.setIfInBounds_toArray, List.set_cons_zero, List.set_cons_succ]
    refine obs_step (Eq.trans (by simp only [List.getElem?_toArray, List.getElem?_cons_succ, List.getElem?_cons_zero]; exact rfl) rfl) rfl (fun w' hS hV K hK => ?_) ?_
    · have e0 : x 0 = (.slice (some ⟨g1, o1, none⟩) (pw n) cx) := hV 0 (by decide)
      have e1 : x 1 = (.int .i64 (kk)) := hV 1 (by decide)
      have q2 := hS.1; have q3 := hS.2.1; obtain ⟨q0, q1⟩ := hS.2.2.1.two
      go_simp
      exact hK.out _ _ _ rfl rfl rfl (Below.refl _ _)
    simp only [List.setIfInBounds_toArray, List.set_cons_zero, List.set_cons_succ]
    refine obs_step (Eq.trans (by simp only [List.getElem?_toArray, List.getElem?_cons_succ, List.getElem?_cons_zero]; exact rfl) rfl) rfl (fun w' hS hV K hK => ?_) ?_
    · have e0 : x 0 = (.slice (some ⟨g1, o1, none⟩) (pw n) cx) := hV 0 (by decide)
      have e1 : x 1 = (.int .i64 (kk)) := hV 1 (by decide)
      have e2 : x 2 = (.pointer (some ⟨g1, o1 + kk, none⟩)) := hV 2 (by decide)
      have q2 := hS.1; have q3 := hS.2.1; obtain ⟨q0, q1⟩ := hS.2.2.1.two
      go_simp
      exact hK.out _ _ _ rfl rfl rfl (Below.refl _ _)
    simp only [List.setIfInBounds_toArray, List.set_cons_zero, List.set_cons_succ]
    refine obs_step (Eq.trans (by simp only [List.getElem?_toArray, List.getElem?_cons_succ, List.getElem?_cons_zero]; exact rfl) rfl) rfl (fun w' hS hV K hK => ?_) ?_
    · have q2 := hS.1; have q3 := hS.2.1; obtain ⟨q0, q1⟩ := hS.2.2.1.two
      go_simp
      exact hK.out _ _ _ rfl rfl rfl (Below.refl _ _)
    simp only [List.setIfInBounds_toArray, List.set_cons_zero, List.set_cons_succ]
    refine obs_step (Eq.trans (by simp only [List.getElem?_toArray, List.getElem?_cons_succ, List.getElem?_cons_zero]; exact rfl) rfl) rfl (fun w' hS hV K hK => ?_) ?_
    · have e4 : x 4 = (.pointer (some ⟨w.heap.size, 0, none⟩)) := hV 4 (by decide)
      have q2 := hS.1; have q3 := hS.2.1; obtain ⟨q0, q1⟩ := hS.2.2.1.two
      go_simp
      exact hK.out _ _ _ rfl rfl rfl (Below.refl _ _)
    simp only [List.setIfInBounds_toArray, List.set_cons_zero, List.set_cons_succ]
    refine obs_step (Eq.trans (by simp only [List.getElem?_toArray, List.getElem?_cons_succ, List.getElem?_cons_zero]; exact rfl) rfl) rfl (fun w' hS hV K hK => ?_) ?_
    · have q2 := hS.1; have q3 := hS.2.1; obtain ⟨q0, q1⟩ := hS.2.2.1.two
      go_simp
      exact hK.out _ _ _ rfl rfl rfl (Below.refl _ _)
    simp only [List.setIfInBounds_toArray, List.set_cons_zero, List.set_cons_succ]
    refine obs_step (Eq.trans (by simp only [List.getElem?_toArray, List.getElem?_cons_succ, List.getElem?_cons_zero]; exact rfl) rfl) rfl (fun w' hS hV K hK => ?_) ?_
    · have q2 := hS.1; have q3 := hS.2.1; obtain ⟨q0, q1⟩ := hS.2.2.1.two
      go_simp
      exact hK.out _ _ _ rfl rfl rfl (Below.refl _ _)
    simp only [List.setIfInBounds_toArray, List.set_cons_zero, List.set_cons_succ]
    refine obs_step (Eq.trans (by simp only [List.getElem?_toArray, List.getElem?_cons_succ, List.getElem?_cons_zero]; exact rfl) rfl) rfl (fun w' hS hV K hK => ?_) ?_
    · have e6 : x 6 = (.slice (some ⟨g2, o2, none⟩) (pw n) c4) := hV 6 (by decide)
      have e7 : x 7 = (.int .i64 (kk)) := hV 7 (by decide)
      have q2 := hS.1; have q3 := hS.2.1; obtain ⟨q0, q1⟩ := hS.2.2.1.two
      go_simp
      exact hK.out _ _ _ rfl rfl rfl (Below.refl _ _)
    simp only [List.setIfInBounds_toArray, List.set_cons_zero, List.set_cons_succ]
    refine obs_step (Eq.trans (by simp only [List.getElem?_toArray, List.getElem?_cons_succ, List.getElem?_cons_zero]; exact rfl) rfl) rfl (fun w' hS hV K hK => ?_) ?_
    · have e6 : x 6 = (.slice (some ⟨g2, o2, none⟩) (pw n) c4) := hV 6 (by decide)
      have e7 : x 7 = (.int .i64 (kk)) := hV 7 (by decide)
      have e8 : x 8 = (.pointer (some ⟨g2, o2 + kk, none⟩)) := hV 8 (by decide)
      have q2 := hS.1; have q3 := hS.2.1; obtain ⟨q0, q1⟩ := hS.2.2.1.two
      go_simp
      exact hK.out _ _ _ rfl rfl rfl (Below.refl _ _)
    simp only [List.setIfInBounds_toArray, List.set_cons_zero, List.set_cons_succ]
    refine obs_step (Eq.trans (by simp only [List.getElem?_toArray, List.getElem?_cons_succ, List.getElem?_cons_zero]; exact rfl) rfl) rfl (fun w' hS hV K hK => ?_) ?_
    · have e4 : x 4 = (.pointer (some ⟨w.heap.size, 0, none⟩)) := hV 4 (by decide)
      have e5 : x 5 = (.int .i64 (P)) := hV 5 (by decide)
      have e6 : x 6 = (.slice (some ⟨g2, o2, none⟩) (pw n) c4) := hV 6 (by decide)
      have e7 : x 7 = (.int .i64 (kk)) := hV 7 (by decide)
      have e8 : x 8 = (.pointer (some ⟨g2, o2 + kk, none⟩)) := hV 8 (by decide)
      have e9 : x 9 = (.int .i64 (wa)) := hV 9 (by decide)
      have q2 := hS.1; have q3 := hS.2.1; obtain ⟨q0, q1⟩ := hS.2.2.1.two
      go_simp
      refine (l01Inv_any P wa _ HP wa3 wa2).mono ?_
      rintro e v1 ⟨rfl, rfl⟩
      exact hK.out _ _ _ rfl rfl rfl (Below.refl _ _)
    simp only [List.setIfInBounds_toArray, List.set_cons_zero, List.set_cons_succ]
    refine obs_step (Eq.trans (by simp only [List.getElem?_toArray, List.getElem?_cons_succ, List.getElem?_cons_zero]; exact rfl) rfl) rfl (fun w' hS hV K hK => ?_) ?_
    · have e0 : x 0 = (.slice (some ⟨g1, o1, none⟩) (pw n) cx) := hV 0 (by decide)
      have e1 : x 1 = (.int .i64 (kk)) := hV 1 (by decide)
      have e2 : x 2 = (.pointer (some ⟨g1, o1 + kk, none⟩)) := hV 2 (by decide)
      have e3 : x 3 = (.int .i64 (xa)) := hV 3 (by decide)
      have e4 : x 4 = (.pointer (some ⟨w.heap.size, 0, none⟩)) := hV 4 (by decide)
      have e5 : x 5 = (.int .i64 (P)) := hV 5 (by decide)
      have e6 : x 6 = (.slice (some ⟨g2, o2, none⟩) (pw n) c4) := hV 6 (by decide)
      have e7 : x 7 = (.int .i64 (kk)) := hV 7 (by decide)
      have e8 : x 8 = (.pointer (some ⟨g2, o2 + kk, none⟩)) := hV 8 (by decide)
      have e9 : x 9 = (.int .i64 (wa)) := hV 9 (by decide)
      have e10 : x 10 = (.int .i64 (invF P wa)) := hV 10 (by decide)
      have q2 := hS.1; have q3 := hS.2.1; obtain ⟨q0, q1⟩ := hS.2.2.1.two
      go_simp
      exact hK.out _ _ _ rfl rfl rfl (Below.refl _ _)
    simp only [List.setIfInBounds_toArray, List.set_cons_zero, List.set_cons_succ]
    refine obs_step (Eq.trans (by simp only [List.getElem?_toArray, List.getElem?_cons_succ, List.getElem?_cons_zero]; exact rfl) rfl) rfl (fun w' hS hV K hK => ?_) ?_
    · have q2 := hS.1; have q3 := hS.2.1; obtain ⟨q0, q1⟩ := hS.2.2.1.two
      go_simp
      exact hK.out _ _ _ rfl rfl rfl (Below.refl _ _)
    simp only [List.setIfInBounds_toArray, List.set_cons_zero, List.set_cons_succ]
    refine obs_step (Eq.trans (by simp only [List.getElem?_toArray, List.getElem?_cons_succ, List.getElem?_cons_zero]; exact rfl) rfl) rfl (fun w' hS hV K hK => ?_) ?_
    · have e12 : x 12 = (.pointer (some ⟨w.heap.size, 0, none⟩)) := hV 12 (by decide)
      have q2 := hS.1; have q3 := hS.2.1; obtain ⟨q0, q1⟩ := hS.2.2.1.two
      go_simp
      exact hK.out _ _ _ rfl rfl rfl (Below.refl _ _)
    simp only [List.setIfInBounds_toArray, List.set_cons_zero, List.set_cons_succ]
    refine obs_step (Eq.trans (by simp only [List.getElem?_toArray, List.getElem?_cons_succ, List.getElem?_cons_zero]; exact rfl) rfl) rfl (fun w' hS hV K hK => ?_) ?_
    · have e0 : x 0 = (.slice (some ⟨g1, o1, none⟩) (pw n) cx) := hV 0 (by decide)
      have e1 : x 1 = (.int .i64 (kk)) := hV 1 (by decide)
      have e2 : x 2 = (.pointer (some ⟨g1, o1 + kk, none⟩)) := hV 2 (by decide)
      have e3 : x 3 = (.int .i64 (xa)) := hV 3 (by decide)
      have e4 : x 4 = (.pointer (some ⟨w.heap.size, 0, none⟩)) := hV 4 (by decide)
      have e5 : x 5 = (.int .i64 (P)) := hV 5 (by decide)
      have e6 : x 6 = (.slice (some ⟨g2, o2, none⟩) (pw n) c4) := hV 6 (by decide)
      have e7 : x 7 = (.int .i64 (kk)) := hV 7 (by decide)
      have e8 : x 8 = (.pointer (some ⟨g2, o2 + kk, none⟩)) := hV 8 (by decide)
      have e9 : x 9 = (.int .i64 (wa)) := hV 9 (by decide)
      have e10 : x 10 = (.int .i64 (invF P wa)) := hV 10 (by decide)
      have e11 : x 11 = (.int .i64 (xa * invF P wa)) := hV 11 (by decide)
      have e12 : x 12 = (.pointer (some ⟨w.heap.size, 0, none⟩)) := hV 12 (by decide)
      have e13 : x 13 = (.int .i64 (P)) := hV 13 (by decide)
      have q2 := hS.1; have q3 := hS.2.1; obtain ⟨q0, q1⟩ := hS.2.2.1.two
      go_simp
      exact hK.out _ _ _ rfl rfl rfl (Below.refl _ _)
    simp only [List.setIfInBounds_toArray, List.set_cons_zero, List.set_cons_succ]
    refine obs_step (Eq.trans (by simp only [List.getElem?_toArray, List.getElem?_cons_succ, List.getElem?_cons_zero]; exact rfl) rfl) rfl (fun w' hS hV K hK => ?_) ?_
    · have e0 : x 0 = (.slice (some ⟨g1, o1, none⟩) (pw n) cx) := hV 0 (by decide)
      have e1 : x 1 = (.int .i64 (kk)) := hV 1 (by decide)
      have e2 : x 2 = (.pointer (some ⟨g1, o1 + kk, none⟩)) := hV 2 (by decide)
      have e3 : x 3 = (.int .i64 (xa)) := hV 3 (by decide)
      have e4 : x 4 = (.pointer (some ⟨w.heap.size, 0, none⟩)) := hV 4 (by decide)
      have e5 : x 5 = (.int .i64 (P)) := hV 5 (by decide)
      have e6 : x 6 = (.slice (some ⟨g2, o2, none⟩) (pw n) c4) := hV 6 (by decide)
      have e7 : x 7 = (.int .i64 (kk)) := hV 7 (by decide)
      have e8 : x 8 = (.pointer (some ⟨g2, o2 + kk, none⟩)) := hV 8 (by decide)
      have e9 : x 9 = (.int .i64 (wa)) := hV 9 (by decide)
      have e10 : x 10 = (.int .i64 (invF P wa)) := hV 10 (by decide)
      have e11 : x 11 = (.int .i64 (xa * invF P wa)) := hV 11 (by decide)
      have e12 : x 12 = (.pointer (some ⟨w.heap.size, 0, none⟩)) := hV 12 (by decide)
      have e13 : x 13 = (.int .i64 (P)) := hV 13 (by decide)
      have e14 : x 14 = (.int .i64 ((xa * invF P wa) % P)) := hV 14 (by decide)
      have q2 := hS.1; have q3 := hS.2.1; obtain ⟨q0, q1⟩ := hS.2.2.1.two
      go_simp
      exact hK.out _ _ _ rfl rfl rfl (Below.refl _ _)
    simp only [List.setIfInBounds_toArray, List.set_cons_zero, List.set_cons_succ]
    refine obs_step (Eq.trans (by simp only [List.getElem?_toArray, List.getElem?_cons_succ, List.getElem?_cons_zero]; exact rfl) rfl) rfl (fun w' hS hV K hK => ?_) ?_
    · have q2 := hS.1; have q3 := hS.2.1; obtain ⟨q0, q1⟩ := hS.2.2.1.two
      go_simp
      exact hK.out _ _ _ rfl rfl rfl (Below.refl _ _)
    simp only [List.setIfInBounds_toArray, List.set_cons_zero, List.set_cons_succ]
    refine fun w' hS hV => ?_
    have e0 : x 0 = (.slice (some ⟨g1, o1, none⟩) (pw n) cx) := hV 0 (by decide)
    have e1 : x 1 = (.int .i64 (kk)) := hV 1 (by decide)
    have e2 : x 2 = (.pointer (some ⟨g1, o1 + kk, none⟩)) := hV 2 (by decide)
    have e3 : x 3 = (.int .i64 (xa)) := hV 3 (by decide)
    have e4 : x 4 = (.pointer (some ⟨w.heap.size, 0, none⟩)) := hV 4 (by decide)
    have e5 : x 5 = (.int .i64 (P)) := hV 5 (by decide)
    have e6 : x 6 = (.slice (some ⟨g2, o2, none⟩) (pw n) c4) := hV 6 (by decide)
    have e7 : x 7 = (.int .i64 (kk)) := hV 7 (by decide)
    have e8 : x 8 = (.pointer (some ⟨g2, o2 + kk, none⟩)) := hV 8 (by decide)
    have e9 : x 9 = (.int .i64 (wa)) := hV 9 (by decide)
    have e10 : x 10 = (.int .i64 (invF P wa)) := hV 10 (by decide)
    have e11 : x 11 = (.int .i64 (xa * invF P wa)) := hV 11 (by decide)
    have e12 : x 12 = (.pointer (some ⟨w.heap.size, 0, none⟩)) := hV 12 (by decide)
    have e13 : x 13 = (.int .i64 (P)) := hV 13 (by decide)
    have e14 : x 14 = (.int .i64 ((xa * invF P wa) % P)) := hV 14 (by decide)
    have e15 : x 15 = (.int .i64 ((xa * invF P wa) % P)) := hV 15 (by decide)
    have e16 : x 16 = (.int .i64 0) := hV 16 (by decide)
    simp only [e0, e1, e2, e3, e4, e5, e6, e7, e8, e9, e10, e11, e12, e13, e14, e15, e16]
    clear e0 e1 e2 e3 e4 e5 e6 e7 e8 e9 e10 e11 e12 e13 e14 e15 e16
    refine wpAny_done (by kernel_rfl) ?_ _
    have HB4 := Lib.hid (hB3.trans (hS.2.2.2.mono hB3.size))
    clear hS W1 T1
    go_wp2
    go_ret2
    exact ⟨ret_ii3 (by rw [HOK.out, HVV.out.1]), HB4.out⟩
  · obtain ⟨r, hr⟩ : ∃ r, r = codeL P sq [xs] := ⟨_, rfl⟩
    have HR := Lib.hid hr
    have HR0 := Lib.hid hr0
    have b0 : (r != 0) = true := code_ne (by rw [hr]; exact hr0)
    rw [← hr] at hreg
    clear hr hr0
    go_enter Tryz.func23, Tryz.ntmps23
    go_wp2_with fail
    refine hreg.mono ?_
    rintro e w2 ⟨rfl, hb2⟩
    have hB2 := hB1.trans (hb2.mono hB1.size)
    have k2 := k1.below hb2 k1.lt
    obtain ⟨q0, q1⟩ := k2.two
    clear k0 hB0 k1 hB1 hb2
    go_wp2
    go_ret2
    exact ⟨ret_ii3 (by rw [facR_bad HR0.out, HR.out]), hB2⟩

end Go.Proofs.YtommppijnccomaaGreat
