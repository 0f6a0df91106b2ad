/-
  The reduced basis of what lists make: the reference's function.
-/
import Derived.Test.YtommppijnccomaaGreatBasis
namespace Go.Proofs.YtommppijnccomaaGreat
open Go.RowKit

set_option maxHeartbeats 6400000 in
set_option maxRecDepth 8000 in
theorem l02Basis_any (p : Int) (A : Option Addr) (n c : Nat) (M : List (List Int)) (m : Nat) (w : World) (HP : isP p = true) (hn : n ≤ 65536) (hm : m ≤ 65536) (ha : RdII w A n M) (hT : Tab p m M) :
    Calls Tryz.prog 103 #[.int .i64 p, .slice A n c] w fun e w' => ∃ A' c', e = .returned (.slice A' (basisL p M).length c') ∧ MkII w w' A' (basisL p M).length c' (basisL p M) := by
  have hML := ha.len
  obtain ⟨hp3, hp2⟩ := isP_ge HP
  have hp : 2 ≤ p := by omega
  have hclone := l01Own2_any p A n c M m w hn hm ha hT
  have HT := Lib.hid hT
  have HP' := Lib.hid HP
  by_cases h0 : 0 < n
  · have HBL : Hid (basisL p M = (basisTo p M m).1.take (basisTo p M m).2) := Lib.hid (by unfold basisL; rw [row0_len hT (by omega)])
    have HINV : Hid (∀ k, Tab p m (basisTo p M k).1 ∧ (basisTo p M k).1.length = n ∧ (basisTo p M k).2 ≤ n) := Lib.hid (fun k => by
      have := basisTo_inv (p := p) (by omega) M hT k
      rw [hML] at this
      exact this)
    clear hT HP hML ha
    go_enter Tryz.func103, Tryz.ntmps103
    go_wp2_with fail
    refine hclone.mono ?_
    rintro e w1 ⟨A1, c1, rfl, hM1⟩
    clear hclone
    obtain ⟨g, rfl, -⟩ := hM1.at_ h0
    go_wp2
    go_loopw [6, 7] (fun d q wr => ∃ dn kn : Nat, d = .int .i64 dn ∧ q = .int .i64 kn ∧ kn ≤ m ∧ dn = (basisTo p M kn).2 ∧ MkII w wr (some ⟨g, 0, none⟩) n c1 (basisTo p M kn).1) (fun _ q _ => m - (intOf q).toNat)
    case atStart => exact ⟨0, 0, rfl, rfl, by omega, rfl, hM1⟩
    case round =>
      obtain ⟨dn, kn, rfl, rfl, hkm, hdn, hM⟩ := hrel
      clear hM1
      obtain ⟨hT1, hl1, hd1⟩ := HINV.out kn
      rw [← hdn] at hd1
      have HSUC : Hid (basisTo p M (kn + 1) = stepB p kn ((basisTo p M kn).1, dn)) := Lib.hid (by rw [hdn]; rfl)
      have HFULL : Hid (dn = n → basisL p M = (basisTo p M kn).1.take dn) := Lib.hid (fun h => by
        rw [HBL.out, basisTo_full p M kn m hkm (by rw [← hdn, hl1]; exact h), ← hdn])
      have HEND : Hid (kn = m → basisL p M = (basisTo p M kn).1.take dn) := Lib.hid (fun h => by rw [HBL.out, ← h, ← hdn])
      obtain ⟨L, hL⟩ : ∃ L, L = (basisTo p M kn).1 := ⟨_, rfl⟩
      rw [← hL] at hM hT1 hl1 HSUC HFULL HEND
      clear hL hdn
      have HT1 := Lib.hid hT1
      have HL1 := Lib.hid hl1
      have HM := Lib.hid hM
      have hcap : n ≤ c1 := by obtain ⟨rows, hm', _⟩ := hM; exact hm'.2.cap
      obtain ⟨g0, e0, hx0, A0, c0, hc0, -⟩ := hM.at_ h0
      injection e0 with e0; injection e0 with e0 _ _; subst e0
      have hl0 : L[0].length = m := (HT1.out L[0] (List.getElem_mem hx0)).1
      rw [hl0] at hc0
      clear hl0 hT1 hl1 hM
      by_cases hlk : kn < m
      · skip
        go_wp2
        go_loop [8] (fun i => ∃ j : Nat, dn ≤ j ∧ j ≤ n ∧ i = .int .i64 j ∧ Hid (piv L kn (n - j) j = pivOf L kn dn)) (fun i => n - (intOf i).toNat)
        case atStart => exact ⟨dn, by omega, by omega, rfl, Lib.hid (by unfold pivOf; rw [HL1.out])⟩
        case round =>
          obtain ⟨j, hj1, hj2, rfl, hj3⟩ := hrel
          by_cases hlj : j < n
          · have hld : dn < n := by omega
            obtain ⟨g0, e0, hxj, Aj, cj, hcj, hrj⟩ := HM.out.at_ hlj
            injection e0 with e0; injection e0 with e0 _ _; subst e0
            have HRJ := Lib.hid (HT1.out L[j] (List.getElem_mem hxj))
            have hlj2 : L[j].length = m := HRJ.out.1
            rw [hlj2] at hcj hrj
            obtain ⟨gj, oj, rfl, hxe, hce⟩ := hrj.rd.int hlk
            have HE : Hid (ent L j kn = L[j][kn]) := Lib.hid (ent_at' hxj hxe)
            have HPV : Hid (piv L kn (n - j) j = if ent L j kn = 0 then piv L kn (n - (j + 1)) (j + 1) else j) := Lib.hid (by
              rw [show n - j = (n - (j + 1)) + 1 by omega]; rfl)
            have HROW : Hid ((swapL L dn j)[dn]? = some L[j]) := Lib.hid (by
              rw [swapL_get? L (by rw [HL1.out]; exact hld) hxj]
              by_cases hdj : dn = j
              · subst hdj; rw [if_pos rfl]; exact List.getElem?_eq_getElem hxj
              · rw [if_neg hdj, if_pos rfl]; exact List.getElem?_eq_getElem hxj)
            have HGD : Hid (L.getD j [] = L[j]) := Lib.hid (getD_of_lt [] hxj)
            obtain ⟨R, hR⟩ : ∃ R, R = L[j] := ⟨_, rfl⟩
            have HXE : Hid (∀ h : kn < R.length, R[kn] = L[j][kn]) := Lib.hid (fun h => by simp only [hR])
            rw [← hR] at hrj HRJ HROW HGD
            clear hlj2
            obtain ⟨xe, hxe'⟩ : ∃ x, x = L[j][kn] := ⟨_, rfl⟩
            rw [← hxe'] at hce HE HXE
            have HX : Hid (0 ≤ xe ∧ xe < p) := Lib.hid (hxe' ▸ ((HT1.out L[j] (List.getElem_mem hxj)).2 _ (List.getElem_mem hxe)))
            clear hxe' hxe hR hxj
            cases hz : (xe == 0)
            · have hne : xe ≠ 0 := by simpa using hz
              have HVP : Hid (pivOf L kn dn = j) := Lib.hid (by rw [← hj3.out, HPV.out, if_neg (by rw [HE.out]; exact hne)])
              obtain ⟨g0, e0, hxd, Ad, cd, hcd, hrd⟩ := HM.out.at_ hld
              injection e0 with e0; injection e0 with e0 _ _; subst e0
              have hld2 : L[dn].length = m := (HT1.out L[dn] (List.getElem_mem hxd)).1
              rw [hld2] at hcd hrd
              have fd := HM.out.frozen_ dn
              have fj := HM.out.frozen_ j
              have HSC : Hid (scaledAt p L kn dn = (swapL L dn j).set dn (scaleL p R (invF p xe))) := Lib.hid (by unfold scaledAt; rw [HVP.out, HGD.out, HE.out])
              have HTS : Hid (Tab p m (scaledAt p L kn dn) ∧ (scaledAt p L kn dn).length = n) := Lib.hid ⟨scaledAt_tab (by omega) HT1.out (by rw [HL1.out]; exact hld) (by rw [HVP.out, HL1.out]; exact hlj), by rw [scaledAt_len, HL1.out]⟩
              have HNEXT : Hid (basisTo p M (kn + 1) = (clearTo p (scaledAt p L kn dn) dn kn n, dn + 1)) := Lib.hid (by
                rw [HSUC.out]; unfold stepB; rw [if_neg (by simp only; rw [HVP.out, HL1.out]; omega)]; simp only [HL1.out])
              have HSCD : Hid ((scaledAt p L kn dn).getD dn [] = scaleL p R (invF p xe)) := Lib.hid (by
                rw [HSC.out, getD_set, if_pos ⟨rfl, by rw [swapL_len, HL1.out]; exact hld⟩])
              have HM1b := Lib.hid (HM.out.rowKept hrj.2 j (.slice Ad m cd))
              have HSWS := Lib.hid (fun (w2 : World) (A1 : Option Addr) (c2 : Nat) (xs : List Int) (h : Mk (wr.setCell ⟨g, j, none⟩ (.slice Ad m cd)) w2 2 A1 m c2 (ints xs)) => HM.out.swapSet hlj hld hcj hcd h)
              obtain ⟨us, hOut⟩ := HM.out.outSet j (.slice Ad m cd)
              obtain ⟨gj', oj', ej', hxe2, hce2⟩ := (Own.rd HM1b.out).int hlk
              injection ej' with ej'; injection ej' with ej1 ej2 _
              subst ej1; subst ej2
              rw [HXE.out hxe2] at hce2
              have HOut := Lib.hid hOut
              clear hrj hrd hld2 hxd hxe2 hOut
              have hiv := invF_small hp xe
              have hx1 := HX.out
              have hP0 : (p == 0) = false := by simp; omega
              have hP1 : (p == -1) = false := by simp; omega
              have hP2 : ¬ p = 0 := by omega
              have hcallI := fun w' => l01Inv_any p xe w' HP'.out (by omega) hx1.2
              have hcallS := l02Scale_any p (some ⟨gj, oj, none⟩) m cj (invF p xe) R (wr.setCell ⟨g, j, none⟩ (.slice Ad m cd)) hp hp2 hm (Own.rd HM1b.out) HRJ.out.2 (by omega) (by omega)
              go_wp2_with fail
              refine (hcallI _).mono ?_
              rintro e v1 ⟨rfl, rfl⟩
              go_wp2_with fail
              refine hcallS.mono ?_
              rintro e w2 ⟨A5, c5, rfl, hM5⟩
              have hOut2 := HOut.out.below hM5.b
              obtain ⟨ud2, -, hud2⟩ := hOut2.2.cell_ hld
              have fd2 := hOut2.2.frozen_ dn
              have hM3 := HSWS.out w2 A5 c5 _ hM5
              rw [← HSC.out] at hM3
              have hOW : Own w2 w.heap.size 2 A5 m c5 (ints (scaleL p R (invF p xe))) := hM5.2.base HOut.out.1.size
              have hOW3 := hOW.grown (hOut2.set dn (.slice A5 m c5)).2 (hOW.ne hOut2.2 (by decide))
              rw [← HSCD.out] at hOW3
              have hM0 : MkII w (w2.setCell ⟨g, dn, none⟩ (.slice A5 m c5)) (some ⟨g, 0, none⟩) n c1 (clearTo p (scaledAt p L kn dn) dn kn 0) := by rw [clearTo_zero]; exact hM3
              obtain ⟨N, hN⟩ : ∃ N, N = scaledAt p L kn dn := ⟨_, rfl⟩
              rw [← hN] at hM0 HTS HNEXT hOW3
              clear hM3 hN HSC HSCD hOW hOut2 hM5 hcallI hcallS hcj hcd hce2 hc0 hce fd fj HM1b HSWS HOut
              go_wp2
              obtain ⟨w3, hw3⟩ : ∃ W, W = w2.setCell ⟨g, dn, none⟩ (.slice A5 m c5) := ⟨_, rfl⟩
              rw [← hw3] at hM0 hOW3 ⊢
              clear hw3 hud2 fd2
              go_loopw [10] (fun i w4 => ∃ r : Nat, r ≤ n ∧ i = .int .i64 r ∧ MkII w w4 (some ⟨g, 0, none⟩) n c1 (clearTo p N dn kn r) ∧ Own w4 w.heap.size 2 A5 m c5 (ints (N.getD dn []))) (fun i _ => n - (intOf i).toNat)
              case atStart => exact ⟨0, by omega, rfl, hM0, hOW3⟩
              case round =>
                obtain ⟨r, hr, rfl, hM4, hO4⟩ := hrel
                clear hM0 hOW3
                by_cases hlr : r < n
                · by_cases hrd : r = dn
                  · subst hrd
                    have HM4 := Lib.hid hM4
                    have HO4 := Lib.hid hO4
                    clear hM4 hO4
                    go_wp2
                    go_roundw
                    case rel => exact ⟨r + 1, by omega, by go_num, by rw [clearTo_skip]; exact HM4.out, HO4.out⟩
                    case measure => simp [intOf]; omega
                  · have hT4 : Tab p m (clearTo p N dn kn r) := clearTo_tab (by omega) HTS.out.1 dn kn r
                    have hr4 : (clearTo p N dn kn r).getD r [] = N.getD r [] := by rw [clearTo_getD (by rw [HTS.out.2]; exact hlr), if_neg (by omega)]
                    obtain ⟨g0, e0, hxr, Ar, cr, hcr, hrr⟩ := hM4.at_ hlr
                    injection e0 with e0; injection e0 with e0 _ _; subst e0
                    have HR1 := Lib.hid (hT4 _ (List.getElem_mem hxr))
                    have HD1 := Lib.hid ((HTS.out.1.row (by rw [HTS.out.2]; exact hld)).2)
                    have hl1 := HR1.out.1
                    rw [getD_of_lt [] hxr] at hr4
                    rw [hl1] at hcr hrr
                    rw [hr4] at hrr HR1
                    obtain ⟨gr, or', rfl, hxy, hcy⟩ := hrr.rd.int hlk
                    have hey : ent N r kn = (N.getD r [])[kn] := by unfold ent; rw [getD_of_lt 0 hxy]
                    obtain ⟨y, hy⟩ : ∃ y, y = (N.getD r [])[kn] := ⟨_, rfl⟩
                    have hyb : 0 ≤ y ∧ y < p := hy ▸ HR1.out.2 _ (List.getElem_mem hxy)
                    rw [← hy] at hcy hey
                    have HEY := Lib.hid hey
                    have HM4 := Lib.hid hM4
                    have HRR := Lib.hid hrr
                    have HO4 := Lib.hid hO4
                    have hmb := emod_small (-y) p (by omega)
                    clear hy hT4 hr4 hl1 hxr hxy hey hM4 hrr hO4
                    have hwy := i64_small (x := p - y) (by omega) (by omega)
                    have hty : (p - y).tmod p = (-y) % p := by rw [Int.tmod_eq_emod_of_nonneg (by omega)]; simp
                    go_wp2
                    refine wp_obs 21 [[], [], [], [], [], [3, 4], [3, 4, 5], [], [], [], [], [9, 10], [9, 10, 11], [], [9, 10, 11, 12, 13], [9, 10, 11, 12, 13, 14], [8, 9, 10, 11, 12, 13, 14, 15], [], [8, 9, 10, 11, 12, 13, 14, 15, 16, 17], [2, 3, 4, 5, 6, 7, 8, 9, 10, 11, 12, 13, 14, 15, 16, 17, 18], [0, 1], [0, 1, 2, 3, 4, 5, 6, 7, 8, 9, 10, 11, 12, 13, 14, 15, 16, 17, 18, 19, 20]] [VIs (.slice (some ⟨g, 0, none⟩) n c1), VIs (.int .i64 (r)), VIs (.int .i64 (p)), VIs (.slice (some ⟨g, 0, none⟩) n c1), VIs (.int .i64 (r)), VIs (.pointer (some ⟨g, r, none⟩)), VIs (.slice (some ⟨gr, or', none⟩) m cr), VIs (.slice A5 m c5), VIs (.int .i64 (p)), VIs (.slice (some ⟨g, 0, none⟩) n c1), VIs (.int .i64 (r)), VIs (.pointer (some ⟨g, r, none⟩)), VIs (.slice (some ⟨gr, or', none⟩) m cr), VIs (.int .i64 (kn)), VIs (.pointer (some ⟨gr, or' + kn, none⟩)), VIs (.int .i64 (y)), VIs (.int .i64 (p - y)), VIs (.int .i64 (p)), VIs (.int .i64 ((-y) % p)), VSl wr m (plusL p (N.getD r []) (N.getD dn []) ((-y) % p)), VIs (.pointer (some ⟨g, r, none⟩))] (fun w' => w'.cell? ⟨g, r, none⟩ = some (.slice (some ⟨gr, or', none⟩) m cr) ∧ w'.cell? ⟨gr, or' + kn, none⟩ = some (.int .i64 y) ∧ Below wr.heap.size wr w') (by kernel_rfl) (by kernel_rfl) (fun _ _ h hb => keepB2 h hb (Nat.le_refl _)) (⟨hcr, hcy, (Below.refl _ _).drew⟩) (fun x => ?_)
                    refine obs_step (Eq.trans (by simp only [List.getElem?_toArray, List.getElem?_cons_zero]; exact rfl) rfl) rfl (fun w' hS hV K hK => ?_) ?_
                    · have q0 := hS.1; have q1 := hS.2.1; have q2 := hS.2.2
                      go_simp
                      exact hK.out _ _ _ rfl rfl rfl (Below.refl _ _)
                    simp only [List.setIfInBounds_toArray, List.set_cons_zero, List.set_cons_succ]
                    refine obs_step (Eq.trans (by simp only [List.getElem?_toArray, List.getElem?_cons_succ, List.getElem?_cons_zero]; exact rfl) rfl) rfl (fun w' hS hV K hK => ?_) ?_
                    · have q0 := hS.1; have q1 := hS.2.1; have q2 := hS.2.2
                      go_simp
                      exact hK.out _ _ _ rfl rfl rfl (Below.refl _ _)
                    simp only [List.setIfInBounds_toArray, List.set_cons_zero, List.set_cons_succ]
                    refine obs_step (Eq.trans (by simp only [List.getElem?_toArray, List.getElem?_cons_succ, List.getElem?_cons_zero]; exact rfl) rfl) rfl (fun w' hS hV K hK => ?_) ?_
                    · have q0 := hS.1; have q1 := hS.2.1; have q2 := hS.2.2
                      go_simp
                      exact hK.out _ _ _ rfl rfl rfl (Below.refl _ _)
                    simp only [List.setIfInBounds_toArray, List.set_cons_zero, List.set_cons_succ]
                    refine obs_step (Eq.trans (by simp only [List.getElem?_toArray, List.getElem?_cons_succ, List.getElem?_cons_zero]; exact rfl) rfl) rfl (fun w' hS hV K hK => ?_) ?_
                    · have q0 := hS.1; have q1 := hS.2.1; have q2 := hS.2.2
                      go_simp
                      exact hK.out _ _ _ rfl rfl rfl (Below.refl _ _)
                    simp only [List.setIfInBounds_toArray, List.set_cons_zero, List.set_cons_succ]
                    refine obs_step (Eq.trans (by simp only [List.getElem?_toArray, List.getElem?_cons_succ, List.getElem?_cons_zero]; exact rfl) rfl) rfl (fun w' hS hV K hK => ?_) ?_
                    · have q0 := hS.1; have q1 := hS.2.1; have q2 := hS.2.2
                      go_simp
                      exact hK.out _ _ _ rfl rfl rfl (Below.refl _ _)
                    simp only [List.setIfInBounds_toArray, List.set_cons_zero, List.set_cons_succ]
                    refine obs_step (Eq.trans (by simp only [List.getElem?_toArray, List.getElem?_cons_succ, List.getElem?_cons_zero]; exact rfl) rfl) rfl (fun w' hS hV K hK => ?_) ?_
                    · have e3 : x 3 = (.slice (some ⟨g, 0, none⟩) n c1) := hV 3 (by decide)
                      have e4 : x 4 = (.int .i64 (r)) := hV 4 (by decide)
                      have q0 := hS.1; have q1 := hS.2.1; have q2 := hS.2.2
                      go_simp
                      exact hK.out _ _ _ rfl rfl rfl (Below.refl _ _)
                    simp only [List.setIfInBounds_toArray, List.set_cons_zero, List.set_cons_succ]
                    refine obs_step (Eq.trans (by simp only [List.getElem?_toArray, List.getElem?_cons_succ, List.getElem?_cons_zero]; exact rfl) rfl) rfl (fun w' hS hV K hK => ?_) ?_
                    · have e3 : x 3 = (.slice (some ⟨g, 0, none⟩) n c1) := hV 3 (by decide)
                      have e4 : x 4 = (.int .i64 (r)) := hV 4 (by decide)
                      have e5 : x 5 = (.pointer (some ⟨g, r, none⟩)) := hV 5 (by decide)
                      have q0 := hS.1; have q1 := hS.2.1; have q2 := hS.2.2
                      go_simp
                      exact hK.out _ _ _ rfl rfl rfl (Below.refl _ _)
                    simp only [List.setIfInBounds_toArray, List.set_cons_zero, List.set_cons_succ]
                    refine obs_step (Eq.trans (by simp only [List.getElem?_toArray, List.getElem?_cons_succ, List.getElem?_cons_zero]; exact rfl) rfl) rfl (fun w' hS hV K hK => ?_) ?_
                    · have q0 := hS.1; have q1 := hS.2.1; have q2 := hS.2.2
                      go_simp
                      exact hK.out _ _ _ rfl rfl rfl (Below.refl _ _)
                    simp only [List.setIfInBounds_toArray, List.set_cons_zero, List.set_cons_succ]
                    refine obs_step (Eq.trans (by simp only [List.getElem?_toArray, List.getElem?_cons_succ, List.getElem?_cons_zero]; exact rfl) rfl) rfl (fun w' hS hV K hK => ?_) ?_
                    · have q0 := hS.1; have q1 := hS.2.1; have q2 := hS.2.2
                      go_simp
                      exact hK.out _ _ _ rfl rfl rfl (Below.refl _ _)
                    simp only [List.setIfInBounds_toArray, List.set_cons_zero, List.set_cons_succ]
                    refine obs_step (Eq.trans (by simp only [List.getElem?_toArray, List.getElem?_cons_succ, List.getElem?_cons_zero]; exact rfl) rfl) rfl (fun w' hS hV K hK => ?_) ?_
                    · have q0 := hS.1; have q1 := hS.2.1; have q2 := hS.2.2
                      go_simp
                      exact hK.out _ _ _ rfl rfl rfl (Below.refl _ _)
                    simp only [List.setIfInBounds_toArray, List.set_cons_zero, List.set_cons_succ]
                    refine obs_step (Eq.trans (by simp only [List.getElem?_toArray, List.getElem?_cons_succ, List.getElem?_cons_zero]; exact rfl) rfl) rfl (fun w' hS hV K hK => ?_) ?_
                    · have q0 := hS.1; have q1 := hS.2.1; have q2 := hS.2.2
                      go_simp
                      exact hK.out _ _ _ rfl rfl rfl (Below.refl _ _)
                    simp only [List.setIfInBounds_toArray, List.set_cons_zero, List.set_cons_succ]
                    refine obs_step (Eq.trans (by simp only [List.getElem?_toArray, List.getElem?_cons_succ, List.getElem?_cons_zero]; exact rfl) rfl) rfl (fun w' hS hV K hK => ?_) ?_
                    · have e9 : x 9 = (.slice (some ⟨g, 0, none⟩) n c1) := hV 9 (by decide)
                      have e10 : x 10 = (.int .i64 (r)) := hV 10 (by decide)
                      have q0 := hS.1; have q1 := hS.2.1; have q2 := hS.2.2
                      go_simp
                      exact hK.out _ _ _ rfl rfl rfl (Below.refl _ _)
                    simp only [List.setIfInBounds_toArray, List.set_cons_zero, List.set_cons_succ]
                    refine obs_step (Eq.trans (by simp only [List.getElem?_toArray, List.getElem?_cons_succ, List.getElem?_cons_zero]; exact rfl) rfl) rfl (fun w' hS hV K hK => ?_) ?_
                    · have e9 : x 9 = (.slice (some ⟨g, 0, none⟩) n c1) := hV 9 (by decide)
                      have e10 : x 10 = (.int .i64 (r)) := hV 10 (by decide)
                      have e11 : x 11 = (.pointer (some ⟨g, r, none⟩)) := hV 11 (by decide)
                      have q0 := hS.1; have q1 := hS.2.1; have q2 := hS.2.2
                      go_simp
                      exact hK.out _ _ _ rfl rfl rfl (Below.refl _ _)
                    simp only [List.setIfInBounds_toArray, List.set_cons_zero, List.set_cons_succ]
                    refine obs_step (Eq.trans (by simp only [List.getElem?_toArray, List.getElem?_cons_succ, List.getElem?_cons_zero]; exact rfl) rfl) rfl (fun w' hS hV K hK => ?_) ?_
                    · have q0 := hS.1; have q1 := hS.2.1; have q2 := hS.2.2
                      go_simp
                      exact hK.out _ _ _ rfl rfl rfl (Below.refl _ _)
                    simp only [List.setIfInBounds_toArray, List.set_cons_zero, List.set_cons_succ]
                    refine obs_step (Eq.trans (by simp only [List.getElem?_toArray, List.getElem?_cons_succ, List.getElem?_cons_zero]; exact rfl) rfl) rfl (fun w' hS hV K hK => ?_) ?_
                    · have e9 : x 9 = (.slice (some ⟨g, 0, none⟩) n c1) := hV 9 (by decide)
                      have e10 : x 10 = (.int .i64 (r)) := hV 10 (by decide)
                      have e11 : x 11 = (.pointer (some ⟨g, r, none⟩)) := hV 11 (by decide)
                      have e12 : x 12 = (.slice (some ⟨gr, or', none⟩) m cr) := hV 12 (by decide)
                      have e13 : x 13 = (.int .i64 (kn)) := hV 13 (by decide)
                      have q0 := hS.1; have q1 := hS.2.1; have q2 := hS.2.2
                      go_simp
                      exact hK.out _ _ _ rfl rfl rfl (Below.refl _ _)
                    simp only [List.setIfInBounds_toArray, List.set_cons_zero, List.set_cons_succ]
                    refine obs_step (Eq.trans (by simp only [List.getElem?_toArray, List.getElem?_cons_succ, List.getElem?_cons_zero]; exact rfl) rfl) rfl (fun w' hS hV K hK => ?_) ?_
                    · have e9 : x 9 = (.slice (some ⟨g, 0, none⟩) n c1) := hV 9 (by decide)
                      have e10 : x 10 = (.int .i64 (r)) := hV 10 (by decide)
                      have e11 : x 11 = (.pointer (some ⟨g, r, none⟩)) := hV 11 (by decide)
                      have e12 : x 12 = (.slice (some ⟨gr, or', none⟩) m cr) := hV 12 (by decide)
                      have e13 : x 13 = (.int .i64 (kn)) := hV 13 (by decide)
                      have e14 : x 14 = (.pointer (some ⟨gr, or' + kn, none⟩)) := hV 14 (by decide)
                      have q0 := hS.1; have q1 := hS.2.1; have q2 := hS.2.2
                      go_simp
                      exact hK.out _ _ _ rfl rfl rfl (Below.refl _ _)
                    simp only [List.setIfInBounds_toArray, List.set_cons_zero, List.set_cons_succ]
                    refine obs_step (Eq.trans (by simp only [List.getElem?_toArray, List.getElem?_cons_succ, List.getElem?_cons_zero]; exact rfl) rfl) rfl (fun w' hS hV K hK => ?_) ?_
                    · have e8 : x 8 = (.int .i64 (p)) := hV 8 (by decide)
                      have e9 : x 9 = (.slice (some ⟨g, 0, none⟩) n c1) := hV 9 (by decide)
                      have e10 : x 10 = (.int .i64 (r)) := hV 10 (by decide)
                      have e11 : x 11 = (.pointer (some ⟨g, r, none⟩)) := hV 11 (by decide)
                      have e12 : x 12 = (.slice (some ⟨gr, or', none⟩) m cr) := hV 12 (by decide)
                      have e13 : x 13 = (.int .i64 (kn)) := hV 13 (by decide)
                      have e14 : x 14 = (.pointer (some ⟨gr, or' + kn, none⟩)) := hV 14 (by decide)
                      have e15 : x 15 = (.int .i64 (y)) := hV 15 (by decide)
                      have q0 := hS.1; have q1 := hS.2.1; have q2 := hS.2.2
                      go_simp
                      exact hK.out _ _ _ rfl rfl rfl (Below.refl _ _)
                    simp only [List.setIfInBounds_toArray, List.set_cons_zero, List.set_cons_succ]
                    refine obs_step (Eq.trans (by simp only [List.getElem?_toArray, List.getElem?_cons_succ, List.getElem?_cons_zero]; exact rfl) rfl) rfl (fun w' hS hV K hK => ?_) ?_
                    · have q0 := hS.1; have q1 := hS.2.1; have q2 := hS.2.2
                      go_simp
                      exact hK.out _ _ _ rfl rfl rfl (Below.refl _ _)
                    simp only [List.setIfInBounds_toArray, List.set_cons_zero, List.set_cons_succ]
                    refine obs_step (Eq.trans (by simp only [List.getElem?_toArray, List.getElem?_cons_succ, List.getElem?_cons_zero]; exact rfl) rfl) rfl (fun w' hS hV K hK => ?_) ?_
                    · have e8 : x 8 = (.int .i64 (p)) := hV 8 (by decide)
                      have e9 : x 9 = (.slice (some ⟨g, 0, none⟩) n c1) := hV 9 (by decide)
                      have e10 : x 10 = (.int .i64 (r)) := hV 10 (by decide)
                      have e11 : x 11 = (.pointer (some ⟨g, r, none⟩)) := hV 11 (by decide)
                      have e12 : x 12 = (.slice (some ⟨gr, or', none⟩) m cr) := hV 12 (by decide)
                      have e13 : x 13 = (.int .i64 (kn)) := hV 13 (by decide)
                      have e14 : x 14 = (.pointer (some ⟨gr, or' + kn, none⟩)) := hV 14 (by decide)
                      have e15 : x 15 = (.int .i64 (y)) := hV 15 (by decide)
                      have e16 : x 16 = (.int .i64 (p - y)) := hV 16 (by decide)
                      have e17 : x 17 = (.int .i64 (p)) := hV 17 (by decide)
                      have q0 := hS.1; have q1 := hS.2.1; have q2 := hS.2.2
                      go_simp
                      exact hK.out _ _ _ rfl rfl rfl (Below.refl _ _)
                    simp only [List.setIfInBounds_toArray, List.set_cons_zero, List.set_cons_succ]
                    refine obs_step (Eq.trans (by simp only [List.getElem?_toArray, List.getElem?_cons_succ, List.getElem?_cons_zero]; exact rfl) rfl) rfl (fun w' hS hV K hK => ?_) ?_
                    · have e2 : x 2 = (.int .i64 (p)) := hV 2 (by decide)
                      have e3 : x 3 = (.slice (some ⟨g, 0, none⟩) n c1) := hV 3 (by decide)
                      have e4 : x 4 = (.int .i64 (r)) := hV 4 (by decide)
                      have e5 : x 5 = (.pointer (some ⟨g, r, none⟩)) := hV 5 (by decide)
                      have e6 : x 6 = (.slice (some ⟨gr, or', none⟩) m cr) := hV 6 (by decide)
                      have e7 : x 7 = (.slice A5 m c5) := hV 7 (by decide)
                      have e8 : x 8 = (.int .i64 (p)) := hV 8 (by decide)
                      have e9 : x 9 = (.slice (some ⟨g, 0, none⟩) n c1) := hV 9 (by decide)
                      have e10 : x 10 = (.int .i64 (r)) := hV 10 (by decide)
                      have e11 : x 11 = (.pointer (some ⟨g, r, none⟩)) := hV 11 (by decide)
                      have e12 : x 12 = (.slice (some ⟨gr, or', none⟩) m cr) := hV 12 (by decide)
                      have e13 : x 13 = (.int .i64 (kn)) := hV 13 (by decide)
                      have e14 : x 14 = (.pointer (some ⟨gr, or' + kn, none⟩)) := hV 14 (by decide)
                      have e15 : x 15 = (.int .i64 (y)) := hV 15 (by decide)
                      have e16 : x 16 = (.int .i64 (p - y)) := hV 16 (by decide)
                      have e17 : x 17 = (.int .i64 (p)) := hV 17 (by decide)
                      have e18 : x 18 = (.int .i64 ((-y) % p)) := hV 18 (by decide)
                      have q0 := hS.1; have q1 := hS.2.1; have q2 := hS.2.2
                      go_simp
                      refine (l02Plus_any p _ m _ _ m _ ((-y) % p) _ _ _ hp hp2 hm (Nat.le_refl _) (HRR.out.rd.below hS.2.2) HR1.out.2 ((Own.rd HO4.out).below hS.2.2) HD1.out (by omega) (by omega)).mono ?_
                      rintro e v1 ⟨A2, c2, rfl, hM⟩
                      exact hK.out _ _ _ rfl rfl ⟨_, _, rfl, hM.after hS.2.2⟩ hM.b
                    simp only [List.setIfInBounds_toArray, List.set_cons_zero, List.set_cons_succ]
                    refine obs_step (Eq.trans (by simp only [List.getElem?_toArray, List.getElem?_cons_succ, List.getElem?_cons_zero]; exact rfl) rfl) rfl (fun w' hS hV K hK => ?_) ?_
                    · have e0 : x 0 = (.slice (some ⟨g, 0, none⟩) n c1) := hV 0 (by decide)
                      have e1 : x 1 = (.int .i64 (r)) := hV 1 (by decide)
                      have q0 := hS.1; have q1 := hS.2.1; have q2 := hS.2.2
                      go_simp
                      exact hK.out _ _ _ rfl rfl rfl (Below.refl _ _)
                    simp only [List.setIfInBounds_toArray, List.set_cons_zero, List.set_cons_succ]
                    refine fun w' hS hV => ?_
                    have e0 : x 0 = (.slice (some ⟨g, 0, none⟩) n c1) := hV 0 (by decide)
                    have e1 : x 1 = (.int .i64 (r)) := hV 1 (by decide)
                    have e2 : x 2 = (.int .i64 (p)) := hV 2 (by decide)
                    have e3 : x 3 = (.slice (some ⟨g, 0, none⟩) n c1) := hV 3 (by decide)
                    have e4 : x 4 = (.int .i64 (r)) := hV 4 (by decide)
                    have e5 : x 5 = (.pointer (some ⟨g, r, none⟩)) := hV 5 (by decide)
                    have e6 : x 6 = (.slice (some ⟨gr, or', none⟩) m cr) := hV 6 (by decide)
                    have e7 : x 7 = (.slice A5 m c5) := hV 7 (by decide)
                    have e8 : x 8 = (.int .i64 (p)) := hV 8 (by decide)
                    have e9 : x 9 = (.slice (some ⟨g, 0, none⟩) n c1) := hV 9 (by decide)
                    have e10 : x 10 = (.int .i64 (r)) := hV 10 (by decide)
                    have e11 : x 11 = (.pointer (some ⟨g, r, none⟩)) := hV 11 (by decide)
                    have e12 : x 12 = (.slice (some ⟨gr, or', none⟩) m cr) := hV 12 (by decide)
                    have e13 : x 13 = (.int .i64 (kn)) := hV 13 (by decide)
                    have e14 : x 14 = (.pointer (some ⟨gr, or' + kn, none⟩)) := hV 14 (by decide)
                    have e15 : x 15 = (.int .i64 (y)) := hV 15 (by decide)
                    have e16 : x 16 = (.int .i64 (p - y)) := hV 16 (by decide)
                    have e17 : x 17 = (.int .i64 (p)) := hV 17 (by decide)
                    have e18 : x 18 = (.int .i64 ((-y) % p)) := hV 18 (by decide)
                    obtain ⟨A19, c19, e19, h19⟩ := hV 19 (by decide)
                    have e20 : x 20 = (.pointer (some ⟨g, r, none⟩)) := hV 20 (by decide)
                    simp only [e0, e1, e2, e3, e4, e5, e6, e7, e8, e9, e10, e11, e12, e13, e14, e15, e16, e17, e18, e19, e20]
                    clear e0 e1 e2 e3 e4 e5 e6 e7 e8 e9 e10 e11 e12 e13 e14 e15 e16 e17 e18 e19 e20
                    obtain ⟨q0, q1, q2⟩ := hS
                    have ff := (HM4.out.below q2).frozen_ r
                    refine any_one (j := 21) (by kernel_rfl) (Eq.trans (by simp only [List.getElem?_toArray, List.getElem?_cons_succ, List.getElem?_cons_zero]; exact rfl) rfl) (fun K hK => ?_)
                    go_simp
                    refine hK.out _ _ (wpAny_done (by kernel_rfl) ?_ _)
                    have hM5 := HM4.out.setRow h19 r
                    have hM6 : MkII w (w'.setCell ⟨g, r, none⟩ (.slice A19 m c19)) (some ⟨g, 0, none⟩) n c1 (clearTo p N dn kn (r + 1)) := by
                      rw [clearTo_succ p N dn kn r (by rw [HTS.out.2]; exact hlr) hrd, HEY.out, plusL_mod p _ _ (k' := (-y) % p) (by rw [Int.emod_emod_of_dvd _ (Int.dvd_refl _)])]; exact hM5
                    have hO6 := (HM4.out.below q2).rowKept (HO4.out.below q2) r (.slice A19 m c19)
                    clear q0 q1 q2 ff hM5 h19
                    go_wp2
                    go_roundw
                    case rel => exact ⟨r + 1, by omega, by go_num, hM6, hO6⟩
                    case measure => simp [intOf]; omega
                · obtain rfl : r = n := by omega
                  have HM4 := Lib.hid hM4
                  clear hM4
                  go_wp2
                  go_roundw
                  case rel => exact ⟨dn + 1, kn + 1, by go_num, by go_num, by omega, by rw [HNEXT.out], by rw [HNEXT.out]; exact HM4.out⟩
                  case measure => simp [intOf]; omega
            · have hx0' : xe = 0 := by simpa using hz
              go_wp2
              go_round
              case rel => exact ⟨j + 1, by omega, by omega, by go_num, Lib.hid (by rw [← hj3.out, HPV.out, if_pos (by rw [HE.out]; exact hx0')])⟩
              case measure => simp [intOf]; omega
          · obtain rfl : j = n := by omega
            have HVP : Hid (pivOf L kn dn = j) := Lib.hid (by rw [← hj3.out, Nat.sub_self]; rfl)
            have HNEXT : Hid (basisTo p M (kn + 1) = (L, dn)) := Lib.hid (by
              rw [HSUC.out]; unfold stepB; rw [if_pos (by simp only; rw [HVP.out, HL1.out])])
            go_wp2
            go_roundw
            case rel => exact ⟨dn, kn + 1, rfl, by go_num, by omega, by rw [HNEXT.out], by rw [HNEXT.out]; exact HM.out⟩
            case measure => simp [intOf]; omega
      · have HBE : Hid (basisL p M = L.take dn ∧ (L.take dn).length = dn) := Lib.hid ⟨by
          by_cases hk2 : kn = m
          · exact HEND.out hk2
          · exact HFULL.out (by omega), by rw [List.length_take, HL1.out]; omega⟩
        go_wp2
        all_goals
          go_ret
          rw [HBE.out.1, HBE.out.2]
          exact ⟨_, _, rfl, HM.out.cut hd1⟩
  · obtain rfl : n = 0 := by omega
    obtain rfl : M = [] := List.eq_nil_of_length_eq_zero hML
    clear hT HT
    have HBN := Lib.hid (basisL_nil p)
    go_enter Tryz.func103, Tryz.ntmps103
    go_wp2_with fail
    refine hclone.mono ?_
    rintro e w1 ⟨A1, c1, rfl, hM1⟩
    clear hclone
    go_wp2
    go_loopw [6, 7] (fun d q wr => d = .int .i64 0 ∧ q = .int .i64 0 ∧ wr = w1) (fun _ _ _ => 0)
    case atStart => exact ⟨rfl, rfl, rfl⟩
    case round =>
      obtain ⟨rfl, rfl, rfl⟩ := hrel
      rcases hM1 with ⟨rows, hm1, hn1⟩
      have hcap := hm1.2.cap
      rcases hm1.2.form with ⟨rfl, _⟩ | ⟨g, rfl, _, _⟩
      all_goals
        go_wp2
        go_ret
        rw [HBN.out]
        exact ⟨_, _, rfl, rows, hm1, hn1⟩

end Go.Proofs.YtommppijnccomaaGreat
