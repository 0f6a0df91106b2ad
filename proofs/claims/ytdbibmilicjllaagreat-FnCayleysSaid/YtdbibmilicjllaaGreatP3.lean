/-
  LawFnCayleys: part 3 of the texts that the proof needs. No condition.
-/
import Derived.Test.YtdbibmilicjllaaGreatP2
namespace Go.Proofs.YtdbibmilicjllaaGreat
open Go.RowKit
set_option maxHeartbeats 6400000 in
set_option maxRecDepth 8000 in
theorem l02Basis_any (p : Int) (A : Option Addr) (n c : Nat) (M : List (List Int)) (m : Nat) (w : World) (HP : isP p = true) (hn : n ≤ 65536) (hm : m ≤ 65536) (ha : RdII w A n M) (hT : Tab p m M) :
    Calls Tryz.prog 342 #[.int .i64 p, .slice A n c] w fun e w' => ∃ A' c', e = .returned (.slice A' (basisL p M).length c') ∧ MkII w w' A' (basisL p M).length c' (basisL p M) := by
  have hML := ha.len
  obtain ⟨hp3, hp2⟩ := isP_ge HP
  have hp : 2 ≤ p := by omega
  have hclone := l01Own2_any p A n c M m w hn hm ha hT
  have HT := Lib.hid hT
  have HP' := Lib.hid HP
  by_cases h0 : 0 < n
  · have HBL : Hid (basisL p M = (basisTo p M m).1.take (basisTo p M m).2) := Lib.hid (by unfold basisL; rw [row0_len hT (by omega)])
    have HINV : Hid (∀ k, Tab p m (basisTo p M k).1 ∧ (basisTo p M k).1.length = n ∧ (basisTo p M k).2 ≤ n) := Lib.hid (fun k => by
      have := basisTo_inv (p := p) (by omega) M hT k
      rw [hML] at this
      exact this)
    clear hT HP hML ha
    go_enter Tryz.func342, Tryz.ntmps342
    go_wp2_with fail
    refine hclone.mono ?_
    rintro e w1 ⟨A1, c1, rfl, hM1⟩
    clear hclone
    obtain ⟨g, rfl, -⟩ := hM1.at_ h0
    go_wp2
    go_loopw [6, 7] (fun d q wr => ∃ dn kn : Nat, d = .int .i64 dn ∧ q = .int .i64 kn ∧ kn ≤ m ∧ dn = (basisTo p M kn).2 ∧ MkII w wr (some ⟨g, 0, none⟩) n c1 (basisTo p M kn).1) (fun _ q _ => m - (intOf q).toNat)
    case atStart => exact ⟨0, 0, rfl, rfl, by omega, rfl, hM1⟩
    case round =>
      obtain ⟨dn, kn, rfl, rfl, hkm, hdn, hM⟩ := hrel
      clear hM1
      obtain ⟨hT1, hl1, hd1⟩ := HINV.out kn
      rw [← hdn] at hd1
      have HSUC : Hid (basisTo p M (kn + 1) = stepB p kn ((basisTo p M kn).1, dn)) := Lib.hid (by rw [hdn]; rfl)
      have HFULL : Hid (dn = n → basisL p M = (basisTo p M kn).1.take dn) := Lib.hid (fun h => by
        rw [HBL.out, basisTo_full p M kn m hkm (by rw [← hdn, hl1]; exact h), ← hdn])
      have HEND : Hid (kn = m → basisL p M = (basisTo p M kn).1.take dn) := Lib.hid (fun h => by rw [HBL.out, ← h, ← hdn])
      obtain ⟨L, hL⟩ : ∃ L, L = (basisTo p M kn).1 := ⟨_, rfl⟩
      rw [← hL] at hM hT1 hl1 HSUC HFULL HEND
      clear hL hdn
      have HT1 := Lib.hid hT1
      have HL1 := Lib.hid hl1
      have HM := Lib.hid hM
      have hcap : n ≤ c1 := by obtain ⟨rows, hm', _⟩ := hM; exact hm'.2.cap
      obtain ⟨g0, e0, hx0, A0, c0, hc0, -⟩ := hM.at_ h0
      injection e0 with e0; injection e0 with e0 _ _; subst e0
      have hl0 : L[0].length = m := (HT1.out L[0] (List.getElem_mem hx0)).1
      rw [hl0] at hc0
      clear hl0 hT1 hl1 hM
      by_cases hlk : kn < m
      · skip
        go_wp2
        go_loop [8] (fun i => ∃ j : Nat, dn ≤ j ∧ j ≤ n ∧ i = .int .i64 j ∧ Hid (piv L kn (n - j) j = pivOf L kn dn)) (fun i => n - (intOf i).toNat)
        case atStart => exact ⟨dn, by omega, by omega, rfl, Lib.hid (by unfold pivOf; rw [HL1.out])⟩
        case round =>
          obtain ⟨j, hj1, hj2, rfl, hj3⟩ := hrel
          by_cases hlj : j < n
          · have hld : dn < n := by omega
            obtain ⟨g0, e0, hxj, Aj, cj, hcj, hrj⟩ := HM.out.at_ hlj
            injection e0 with e0; injection e0 with e0 _ _; subst e0
            have HRJ := Lib.hid (HT1.out L[j] (List.getElem_mem hxj))
            have hlj2 : L[j].length = m := HRJ.out.1
            rw [hlj2] at hcj hrj
            obtain ⟨gj, oj, rfl, hxe, hce⟩ := hrj.rd.int hlk
            have HE : Hid (ent L j kn = L[j][kn]) := Lib.hid (ent_at' hxj hxe)
            have HPV : Hid (piv L kn (n - j) j = if ent L j kn = 0 then piv L kn (n - (j + 1)) (j + 1) else j) := Lib.hid (by
              rw [show n - j = (n - (j + 1)) + 1 by omega]; rfl)
            have HROW : Hid ((swapL L dn j)[dn]? = some L[j]) := Lib.hid (by
              rw [swapL_get? L (by rw [HL1.out]; exact hld) hxj]
              by_cases hdj : dn = j
              · subst hdj; rw [if_pos rfl]; exact List.getElem?_eq_getElem hxj
              · rw [if_neg hdj, if_pos rfl]; exact List.getElem?_eq_getElem hxj)
            have HGD : Hid (L.getD j [] = L[j]) := Lib.hid (getD_of_lt [] hxj)
            obtain ⟨R, hR⟩ : ∃ R, R = L[j] := ⟨_, rfl⟩
            have HXE : Hid (∀ h : kn < R.length, R[kn] = L[j][kn]) := Lib.hid (fun h => by simp only [hR])
            rw [← hR] at hrj HRJ HROW HGD
            clear hlj2
            obtain ⟨xe, hxe'⟩ : ∃ x, x = L[j][kn] := ⟨_, rfl⟩
            rw [← hxe'] at hce HE HXE
            have HX : Hid (0 ≤ xe ∧ xe < p) := Lib.hid (hxe' ▸ ((HT1.out L[j] (List.getElem_mem hxj)).2 _ (List.getElem_mem hxe)))
            clear hxe' hxe hR hxj
            cases hz : (xe == 0)
            · have hne : xe ≠ 0 := by simpa using hz
              have HVP : Hid (pivOf L kn dn = j) := Lib.hid (by rw [← hj3.out, HPV.out, if_neg (by rw [HE.out]; exact hne)])
              obtain ⟨g0, e0, hxd, Ad, cd, hcd, hrd⟩ := HM.out.at_ hld
              injection e0 with e0; injection e0 with e0 _ _; subst e0
              have hld2 : L[dn].length = m := (HT1.out L[dn] (List.getElem_mem hxd)).1
              rw [hld2] at hcd hrd
              have fd := HM.out.frozen_ dn
              have fj := HM.out.frozen_ j
              have HSC : Hid (scaledAt p L kn dn = (swapL L dn j).set dn (scaleL p R (invF p xe))) := Lib.hid (by unfold scaledAt; rw [HVP.out, HGD.out, HE.out])
              have HTS : Hid (Tab p m (scaledAt p L kn dn) ∧ (scaledAt p L kn dn).length = n) := Lib.hid ⟨scaledAt_tab (by omega) HT1.out (by rw [HL1.out]; exact hld) (by rw [HVP.out, HL1.out]; exact hlj), by rw [scaledAt_len, HL1.out]⟩
              have HNEXT : Hid (basisTo p M (kn + 1) = (clearTo p (scaledAt p L kn dn) dn kn n, dn + 1)) := Lib.hid (by
                rw [HSUC.out]; unfold stepB; rw [if_neg (by simp only; rw [HVP.out, HL1.out]; omega)]; simp only [HL1.out])
              have HSCD : Hid ((scaledAt p L kn dn).getD dn [] = scaleL p R (invF p xe)) := Lib.hid (by
                rw [HSC.out, getD_set, if_pos ⟨rfl, by rw [swapL_len, HL1.out]; exact hld⟩])
              have HM1b := Lib.hid (HM.out.rowKept hrj.2 j (.slice Ad m cd))
              have HSWS := Lib.hid (fun (w2 : World) (A1 : Option Addr) (c2 : Nat) (xs : List Int) (h : Mk (wr.setCell ⟨g, j, none⟩ (.slice Ad m cd)) w2 2 A1 m c2 (ints xs)) => HM.out.swapSet hlj hld hcj hcd h)
              obtain ⟨us, hOut⟩ := HM.out.outSet j (.slice Ad m cd)
              obtain ⟨gj', oj', ej', hxe2, hce2⟩ := (Own.rd HM1b.out).int hlk
              injection ej' with ej'; injection ej' with ej1 ej2 _
              subst ej1; subst ej2
              rw [HXE.out hxe2] at hce2
              have HOut := Lib.hid hOut
              clear hrj hrd hld2 hxd hxe2 hOut
              have hiv := invF_small hp xe
              have hx1 := HX.out
              have hP0 : (p == 0) = false := by simp; omega
              have hP1 : (p == -1) = false := by simp; omega
              have hP2 : ¬ p = 0 := by omega
              have hcallI := fun w' => l01Inv_any p xe w' HP'.out (by omega) hx1.2
              have hcallS := l02Scale_any p (some ⟨gj, oj, none⟩) m cj (invF p xe) R (wr.setCell ⟨g, j, none⟩ (.slice Ad m cd)) hp hp2 hm (Own.rd HM1b.out) HRJ.out.2 (by omega) (by omega)
              go_wp2_with fail
              refine (hcallI _).mono ?_
              rintro e v1 ⟨rfl, rfl⟩
              go_wp2_with fail
              refine hcallS.mono ?_
              rintro e w2 ⟨A5, c5, rfl, hM5⟩
              have hOut2 := HOut.out.below hM5.b
              obtain ⟨ud2, -, hud2⟩ := hOut2.2.cell_ hld
              have fd2 := hOut2.2.frozen_ dn
              have hM3 := HSWS.out w2 A5 c5 _ hM5
              rw [← HSC.out] at hM3
              have hOW : Own w2 w.heap.size 2 A5 m c5 (ints (scaleL p R (invF p xe))) := hM5.2.base HOut.out.1.size
              have hOW3 := hOW.grown (hOut2.set dn (.slice A5 m c5)).2 (hOW.ne hOut2.2 (by decide))
              rw [← HSCD.out] at hOW3
              have hM0 : MkII w (w2.setCell ⟨g, dn, none⟩ (.slice A5 m c5)) (some ⟨g, 0, none⟩) n c1 (clearTo p (scaledAt p L kn dn) dn kn 0) := by rw [clearTo_zero]; exact hM3
              obtain ⟨N, hN⟩ : ∃ N, N = scaledAt p L kn dn := ⟨_, rfl⟩
              rw [← hN] at hM0 HTS HNEXT hOW3
              clear hM3 hN HSC HSCD hOW hOut2 hM5 hcallI hcallS hcj hcd hce2 hc0 hce fd fj HM1b HSWS HOut
              go_wp2
              obtain ⟨w3, hw3⟩ : ∃ W, W = w2.setCell ⟨g, dn, none⟩ (.slice A5 m c5) := ⟨_, rfl⟩
              rw [← hw3] at hM0 hOW3 ⊢
              clear hw3 hud2 fd2
              go_loopw [10] (fun i w4 => ∃ r : Nat, r ≤ n ∧ i = .int .i64 r ∧ MkII w w4 (some ⟨g, 0, none⟩) n c1 (clearTo p N dn kn r) ∧ Own w4 w.heap.size 2 A5 m c5 (ints (N.getD dn []))) (fun i _ => n - (intOf i).toNat)
              case atStart => exact ⟨0, by omega, rfl, hM0, hOW3⟩
              case round =>
                obtain ⟨r, hr, rfl, hM4, hO4⟩ := hrel
                clear hM0 hOW3
                by_cases hlr : r < n
                · by_cases hrd : r = dn
                  · subst hrd
                    have HM4 := Lib.hid hM4
                    have HO4 := Lib.hid hO4
                    clear hM4 hO4
                    go_wp2
                    go_roundw
                    case rel => exact ⟨r + 1, by omega, by go_num, by rw [clearTo_skip]; exact HM4.out, HO4.out⟩
                    case measure => simp [intOf]; omega
                  · have hT4 : Tab p m (clearTo p N dn kn r) := clearTo_tab (by omega) HTS.out.1 dn kn r
                    have hr4 : (clearTo p N dn kn r).getD r [] = N.getD r [] := by rw [clearTo_getD (by rw [HTS.out.2]; exact hlr), if_neg (by omega)]
                    obtain ⟨g0, e0, hxr, Ar, cr, hcr, hrr⟩ := hM4.at_ hlr
                    injection e0 with e0; injection e0 with e0 _ _; subst e0
                    have HR1 := Lib.hid (hT4 _ (List.getElem_mem hxr))
                    have HD1 := Lib.hid ((HTS.out.1.row (by rw [HTS.out.2]; exact hld)).2)
                    have hl1 := HR1.out.1
                    rw [getD_of_lt [] hxr] at hr4
                    rw [hl1] at hcr hrr
                    rw [hr4] at hrr HR1
                    obtain ⟨gr, or', rfl, hxy, hcy⟩ := hrr.rd.int hlk
                    have hey : ent N r kn = (N.getD r [])[kn] := by unfold ent; rw [getD_of_lt 0 hxy]
                    obtain ⟨y, hy⟩ : ∃ y, y = (N.getD r [])[kn] := ⟨_, rfl⟩
                    have hyb : 0 ≤ y ∧ y < p := hy ▸ HR1.out.2 _ (List.getElem_mem hxy)
                    rw [← hy] at hcy hey
                    have HEY := Lib.hid hey
                    have HM4 := Lib.hid hM4
                    have HRR := Lib.hid hrr
                    have HO4 := Lib.hid hO4
                    have hmb := emod_small (-y) p (by omega)
                    clear hy hT4 hr4 hl1 hxr hxy hey hM4 hrr hO4
                    have hwy := i64_small (x := p - y) (by omega) (by omega)
                    have hty : (p - y).tmod p = (-y) % p := by rw [Int.tmod_eq_emod_of_nonneg (by omega)]; simp
                    go_wp2
                    refine wp_obs 21 [[], [], [], [], [], [3, 4], [3, 4, 5], [], [], [], [], [9, 10], [9, 10, 11], [], [9, 10, 11, 12, 13], [9, 10, 11, 12, 13, 14], [8, 9, 10, 11, 12, 13, 14, 15], [], [8, 9, 10, 11, 12, 13, 14, 15, 16, 17], [2, 3, 4, 5, 6, 7, 8, 9, 10, 11, 12, 13, 14, 15, 16, 17, 18], [0, 1], [0, 1, 2, 3, 4, 5, 6, 7, 8, 9, 10, 11, 12, 13, 14, 15, 16, 17, 18, 19, 20]] [VIs (.slice (some ⟨g, 0, none⟩) n c1), VIs (.int .i64 (r)), VIs (.int .i64 (p)), VIs (.slice (some ⟨g, 0, none⟩) n c1), VIs (.int .i64 (r)), VIs (.pointer (some ⟨g, r, none⟩)), VIs (.slice (some ⟨gr, or', none⟩) m cr), VIs (.slice A5 m c5), VIs (.int .i64 (p)), VIs (.slice (some ⟨g, 0, none⟩) n c1), VIs (.int .i64 (r)), VIs (.pointer (some ⟨g, r, none⟩)), VIs (.slice (some ⟨gr, or', none⟩) m cr), VIs (.int .i64 (kn)), VIs (.pointer (some ⟨gr, or' + kn, none⟩)), VIs (.int .i64 (y)), VIs (.int .i64 (p - y)), VIs (.int .i64 (p)), VIs (.int .i64 ((-y) % p)), VSl wr m (plusL p (N.getD r []) (N.getD dn []) ((-y) % p)), VIs (.pointer (some ⟨g, r, none⟩))] (fun w' => w'.cell? ⟨g, r, none⟩ = some (.slice (some ⟨gr, or', none⟩) m cr) ∧ w'.cell? ⟨gr, or' + kn, none⟩ = some (.int .i64 y) ∧ Below wr.heap.size wr w') (by kernel_rfl) (by kernel_rfl) (fun _ _ h hb => keepB2 h hb (Nat.le_refl _)) (⟨hcr, hcy, (Below.refl _ _).drew⟩) (fun x => ?_)
                    refine obs_step (Eq.trans (by simp only [zA, zC]; exact rfl) rfl) rfl (fun w' hS hV K hK => ?_) ?_
                    · have q0 := hS.1; have q1 := hS.2.1; have q2 := hS.2.2
                      go_simp
                      exact hK.out _ _ _ rfl rfl rfl (Below.refl _ _)
                    simp only [zD, zE, zF]
                    refine obs_step (Eq.trans (by simp only [zA, zB, zC]; exact rfl) rfl) rfl (fun w' hS hV K hK => ?_) ?_
                    · have q0 := hS.1; have q1 := hS.2.1; have q2 := hS.2.2
                      go_simp
                      exact hK.out _ _ _ rfl rfl rfl (Below.refl _ _)
                    simp only [zD, zE, zF]
                    refine obs_step (Eq.trans (by simp only [zA, zB, zC]; exact rfl) rfl) rfl (fun w' hS hV K hK => ?_) ?_
                    · have q0 := hS.1; have q1 := hS.2.1; have q2 := hS.2.2
                      go_simp
                      exact hK.out _ _ _ rfl rfl rfl (Below.refl _ _)
                    simp only [zD, zE, zF]
                    refine obs_step (Eq.trans (by simp only [zA, zB, zC]; exact rfl) rfl) rfl (fun w' hS hV K hK => ?_) ?_
                    · have q0 := hS.1; have q1 := hS.2.1; have q2 := hS.2.2
                      go_simp
                      exact hK.out _ _ _ rfl rfl rfl (Below.refl _ _)
                    simp only [zD, zE, zF]
                    refine obs_step (Eq.trans (by simp only [zA, zB, zC]; exact rfl) rfl) rfl (fun w' hS hV K hK => ?_) ?_
                    · have q0 := hS.1; have q1 := hS.2.1; have q2 := hS.2.2
                      go_simp
                      exact hK.out _ _ _ rfl rfl rfl (Below.refl _ _)
                    simp only [zD, zE, zF]
                    refine obs_step (Eq.trans (by simp only [zA, zB, zC]; exact rfl) rfl) rfl (fun w' hS hV K hK => ?_) ?_
                    · have e3 : x 3 = (.slice (some ⟨g, 0, none⟩) n c1) := hV 3 (by decide)
                      have e4 : x 4 = (.int .i64 (r)) := hV 4 (by decide)
                      have q0 := hS.1; have q1 := hS.2.1; have q2 := hS.2.2
                      go_simp
                      exact hK.out _ _ _ rfl rfl rfl (Below.refl _ _)
                    simp only [zD, zE, zF]
                    refine obs_step (Eq.trans (by simp only [zA, zB, zC]; exact rfl) rfl) rfl (fun w' hS hV K hK => ?_) ?_
                    · have e5 : x 5 = (.pointer (some ⟨g, r, none⟩)) := hV 5 (by decide)
                      have q0 := hS.1; have q1 := hS.2.1; have q2 := hS.2.2
                      go_simp
                      exact hK.out _ _ _ rfl rfl rfl (Below.refl _ _)
                    simp only [zD, zE, zF]
                    refine obs_step (Eq.trans (by simp only [zA, zB, zC]; exact rfl) rfl) rfl (fun w' hS hV K hK => ?_) ?_
                    · have q0 := hS.1; have q1 := hS.2.1; have q2 := hS.2.2
                      go_simp
                      exact hK.out _ _ _ rfl rfl rfl (Below.refl _ _)
                    simp only [zD, zE, zF]
                    refine obs_step (Eq.trans (by simp only [zA, zB, zC]; exact rfl) rfl) rfl (fun w' hS hV K hK => ?_) ?_
                    · have q0 := hS.1; have q1 := hS.2.1; have q2 := hS.2.2
                      go_simp
                      exact hK.out _ _ _ rfl rfl rfl (Below.refl _ _)
                    simp only [zD, zE, zF]
                    refine obs_step (Eq.trans (by simp only [zA, zB, zC]; exact rfl) rfl) rfl (fun w' hS hV K hK => ?_) ?_
                    · have q0 := hS.1; have q1 := hS.2.1; have q2 := hS.2.2
                      go_simp
                      exact hK.out _ _ _ rfl rfl rfl (Below.refl _ _)
                    simp only [zD, zE, zF]
                    refine obs_step (Eq.trans (by simp only [zA, zB, zC]; exact rfl) rfl) rfl (fun w' hS hV K hK => ?_) ?_
                    · have q0 := hS.1; have q1 := hS.2.1; have q2 := hS.2.2
                      go_simp
                      exact hK.out _ _ _ rfl rfl rfl (Below.refl _ _)
                    simp only [zD, zE, zF]
                    refine obs_step (Eq.trans (by simp only [zA, zB, zC]; exact rfl) rfl) rfl (fun w' hS hV K hK => ?_) ?_
                    · have e9 : x 9 = (.slice (some ⟨g, 0, none⟩) n c1) := hV 9 (by decide)
                      have e10 : x 10 = (.int .i64 (r)) := hV 10 (by decide)
                      have q0 := hS.1; have q1 := hS.2.1; have q2 := hS.2.2
                      go_simp
                      exact hK.out _ _ _ rfl rfl rfl (Below.refl _ _)
                    simp only [zD, zE, zF]
                    refine obs_step (Eq.trans (by simp only [zA, zB, zC]; exact rfl) rfl) rfl (fun w' hS hV K hK => ?_) ?_
                    · have e11 : x 11 = (.pointer (some ⟨g, r, none⟩)) := hV 11 (by decide)
                      have q0 := hS.1; have q1 := hS.2.1; have q2 := hS.2.2
                      go_simp
                      exact hK.out _ _ _ rfl rfl rfl (Below.refl _ _)
                    simp only [zD, zE, zF]
                    refine obs_step (Eq.trans (by simp only [zA, zB, zC]; exact rfl) rfl) rfl (fun w' hS hV K hK => ?_) ?_
                    · have q0 := hS.1; have q1 := hS.2.1; have q2 := hS.2.2
                      go_simp
                      exact hK.out _ _ _ rfl rfl rfl (Below.refl _ _)
                    simp only [zD, zE, zF]
                    refine obs_step (Eq.trans (by simp only [zA, zB, zC]; exact rfl) rfl) rfl (fun w' hS hV K hK => ?_) ?_
                    · have e12 : x 12 = (.slice (some ⟨gr, or', none⟩) m cr) := hV 12 (by decide)
                      have e13 : x 13 = (.int .i64 (kn)) := hV 13 (by decide)
                      have q0 := hS.1; have q1 := hS.2.1; have q2 := hS.2.2
                      go_simp
                      exact hK.out _ _ _ rfl rfl rfl (Below.refl _ _)
                    simp only [zD, zE, zF]
                    refine obs_step (Eq.trans (by simp only [zA, zB, zC]; exact rfl) rfl) rfl (fun w' hS hV K hK => ?_) ?_
                    · have e14 : x 14 = (.pointer (some ⟨gr, or' + kn, none⟩)) := hV 14 (by decide)
                      have q0 := hS.1; have q1 := hS.2.1; have q2 := hS.2.2
                      go_simp
                      exact hK.out _ _ _ rfl rfl rfl (Below.refl _ _)
                    simp only [zD, zE, zF]
                    refine obs_step (Eq.trans (by simp only [zA, zB, zC]; exact rfl) rfl) rfl (fun w' hS hV K hK => ?_) ?_
                    · have e8 : x 8 = (.int .i64 (p)) := hV 8 (by decide)
                      have e15 : x 15 = (.int .i64 (y)) := hV 15 (by decide)
                      have q0 := hS.1; have q1 := hS.2.1; have q2 := hS.2.2
                      go_simp
                      exact hK.out _ _ _ rfl rfl rfl (Below.refl _ _)
                    simp only [zD, zE, zF]
                    refine obs_step (Eq.trans (by simp only [zA, zB, zC]; exact rfl) rfl) rfl (fun w' hS hV K hK => ?_) ?_
                    · have q0 := hS.1; have q1 := hS.2.1; have q2 := hS.2.2
                      go_simp
                      exact hK.out _ _ _ rfl rfl rfl (Below.refl _ _)
                    simp only [zD, zE, zF]
                    refine obs_step (Eq.trans (by simp only [zA, zB, zC]; exact rfl) rfl) rfl (fun w' hS hV K hK => ?_) ?_
                    · have e16 : x 16 = (.int .i64 (p - y)) := hV 16 (by decide)
                      have e17 : x 17 = (.int .i64 (p)) := hV 17 (by decide)
                      have q0 := hS.1; have q1 := hS.2.1; have q2 := hS.2.2
                      go_simp
                      exact hK.out _ _ _ rfl rfl rfl (Below.refl _ _)
                    simp only [zD, zE, zF]
                    refine obs_step (Eq.trans (by simp only [zA, zB, zC]; exact rfl) rfl) rfl (fun w' hS hV K hK => ?_) ?_
                    · have e2 : x 2 = (.int .i64 (p)) := hV 2 (by decide)
                      have e6 : x 6 = (.slice (some ⟨gr, or', none⟩) m cr) := hV 6 (by decide)
                      have e7 : x 7 = (.slice A5 m c5) := hV 7 (by decide)
                      have e18 : x 18 = (.int .i64 ((-y) % p)) := hV 18 (by decide)
                      have q0 := hS.1; have q1 := hS.2.1; have q2 := hS.2.2
                      go_simp
                      refine (l02Plus_any p _ m _ _ m _ ((-y) % p) _ _ _ hp hp2 hm (Nat.le_refl _) (HRR.out.rd.below hS.2.2) HR1.out.2 ((Own.rd HO4.out).below hS.2.2) HD1.out (by omega) (by omega)).mono ?_
                      rintro e v1 ⟨A2, c2, rfl, hM⟩
                      exact hK.out _ _ _ rfl rfl ⟨_, _, rfl, hM.after hS.2.2⟩ hM.b
                    simp only [zD, zE, zF]
                    refine obs_step (Eq.trans (by simp only [zA, zB, zC]; exact rfl) rfl) rfl (fun w' hS hV K hK => ?_) ?_
                    · have e0 : x 0 = (.slice (some ⟨g, 0, none⟩) n c1) := hV 0 (by decide)
                      have e1 : x 1 = (.int .i64 (r)) := hV 1 (by decide)
                      have q0 := hS.1; have q1 := hS.2.1; have q2 := hS.2.2
                      go_simp
                      exact hK.out _ _ _ rfl rfl rfl (Below.refl _ _)
                    simp only [zD, zE, zF]
                    refine fun w' hS hV => ?_
                    have e0 : x 0 = (.slice (some ⟨g, 0, none⟩) n c1) := hV 0 (by decide)
                    have e1 : x 1 = (.int .i64 (r)) := hV 1 (by decide)
                    have e2 : x 2 = (.int .i64 (p)) := hV 2 (by decide)
                    have e3 : x 3 = (.slice (some ⟨g, 0, none⟩) n c1) := hV 3 (by decide)
                    have e4 : x 4 = (.int .i64 (r)) := hV 4 (by decide)
                    have e5 : x 5 = (.pointer (some ⟨g, r, none⟩)) := hV 5 (by decide)
                    have e6 : x 6 = (.slice (some ⟨gr, or', none⟩) m cr) := hV 6 (by decide)
                    have e7 : x 7 = (.slice A5 m c5) := hV 7 (by decide)
                    have e8 : x 8 = (.int .i64 (p)) := hV 8 (by decide)
                    have e9 : x 9 = (.slice (some ⟨g, 0, none⟩) n c1) := hV 9 (by decide)
                    have e10 : x 10 = (.int .i64 (r)) := hV 10 (by decide)
                    have e11 : x 11 = (.pointer (some ⟨g, r, none⟩)) := hV 11 (by decide)
                    have e12 : x 12 = (.slice (some ⟨gr, or', none⟩) m cr) := hV 12 (by decide)
                    have e13 : x 13 = (.int .i64 (kn)) := hV 13 (by decide)
                    have e14 : x 14 = (.pointer (some ⟨gr, or' + kn, none⟩)) := hV 14 (by decide)
                    have e15 : x 15 = (.int .i64 (y)) := hV 15 (by decide)
                    have e16 : x 16 = (.int .i64 (p - y)) := hV 16 (by decide)
                    have e17 : x 17 = (.int .i64 (p)) := hV 17 (by decide)
                    have e18 : x 18 = (.int .i64 ((-y) % p)) := hV 18 (by decide)
                    obtain ⟨A19, c19, e19, h19⟩ := hV 19 (by decide)
                    have e20 : x 20 = (.pointer (some ⟨g, r, none⟩)) := hV 20 (by decide)
                    simp only [e0, e1, e2, e3, e4, e5, e6, e7, e8, e9, e10, e11, e12, e13, e14, e15, e16, e17, e18, e19, e20]
                    clear e0 e1 e2 e3 e4 e5 e6 e7 e8 e9 e10 e11 e12 e13 e14 e15 e16 e17 e18 e19 e20
                    obtain ⟨q0, q1, q2⟩ := hS
                    have ff := (HM4.out.below q2).frozen_ r
                    refine any_one (j := 21) (by kernel_rfl) (Eq.trans (by simp only [zA, zB, zC]; exact rfl) rfl) (fun K hK => ?_)
                    go_simp
                    refine hK.out _ _ (wpAny_done (by kernel_rfl) ?_ _)
                    have hM5 := HM4.out.setRow h19 r
                    have hM6 : MkII w (w'.setCell ⟨g, r, none⟩ (.slice A19 m c19)) (some ⟨g, 0, none⟩) n c1 (clearTo p N dn kn (r + 1)) := by
                      rw [clearTo_succ p N dn kn r (by rw [HTS.out.2]; exact hlr) hrd, HEY.out, plusL_mod p _ _ (k' := (-y) % p) (by rw [Int.emod_emod_of_dvd _ (Int.dvd_refl _)])]; exact hM5
                    have hO6 := (HM4.out.below q2).rowKept (HO4.out.below q2) r (.slice A19 m c19)
                    clear q0 q1 q2 ff hM5 h19
                    go_wp2
                    go_roundw
                    case rel => exact ⟨r + 1, by omega, by go_num, hM6, hO6⟩
                    case measure => simp [intOf]; omega
                · obtain rfl : r = n := by omega
                  have HM4 := Lib.hid hM4
                  clear hM4
                  go_wp2
                  go_roundw
                  case rel => exact ⟨dn + 1, kn + 1, by go_num, by go_num, by omega, by rw [HNEXT.out], by rw [HNEXT.out]; exact HM4.out⟩
                  case measure => simp [intOf]; omega
            · have hx0' : xe = 0 := by simpa using hz
              go_wp2
              go_round
              case rel => exact ⟨j + 1, by omega, by omega, by go_num, Lib.hid (by rw [← hj3.out, HPV.out, if_pos (by rw [HE.out]; exact hx0')])⟩
              case measure => simp [intOf]; omega
          · obtain rfl : j = n := by omega
            have HVP : Hid (pivOf L kn dn = j) := Lib.hid (by rw [← hj3.out, Nat.sub_self]; rfl)
            have HNEXT : Hid (basisTo p M (kn + 1) = (L, dn)) := Lib.hid (by
              rw [HSUC.out]; unfold stepB; rw [if_pos (by simp only; rw [HVP.out, HL1.out])])
            go_wp2
            go_roundw
            case rel => exact ⟨dn, kn + 1, rfl, by go_num, by omega, by rw [HNEXT.out], by rw [HNEXT.out]; exact HM.out⟩
            case measure => simp [intOf]; omega
      · have HBE : Hid (basisL p M = L.take dn ∧ (L.take dn).length = dn) := Lib.hid ⟨by
          by_cases hk2 : kn = m
          · exact HEND.out hk2
          · exact HFULL.out (by omega), by rw [List.length_take, HL1.out]; omega⟩
        go_wp2
        all_goals
          go_ret
          rw [HBE.out.1, HBE.out.2]
          exact ⟨_, _, rfl, HM.out.cut hd1⟩
  · obtain rfl : n = 0 := by omega
    obtain rfl : M = [] := List.eq_nil_of_length_eq_zero hML
    clear hT HT
    have HBN := Lib.hid (basisL_nil p)
    go_enter Tryz.func342, Tryz.ntmps342
    go_wp2_with fail
    refine hclone.mono ?_
    rintro e w1 ⟨A1, c1, rfl, hM1⟩
    clear hclone
    go_wp2
    go_loopw [6, 7] (fun d q wr => d = .int .i64 0 ∧ q = .int .i64 0 ∧ wr = w1) (fun _ _ _ => 0)
    case atStart => exact ⟨rfl, rfl, rfl⟩
    case round =>
      obtain ⟨rfl, rfl, rfl⟩ := hrel
      rcases hM1 with ⟨rows, hm1, hn1⟩
      have hcap := hm1.2.cap
      rcases hm1.2.form with ⟨rfl, _⟩ | ⟨g, rfl, _, _⟩
      all_goals
        go_wp2
        go_ret
        rw [HBN.out]
        exact ⟨_, _, rfl, rows, hm1, hn1⟩
end Go.Proofs.YtdbibmilicjllaaGreat
namespace Go.Proofs.YtdbibmilicjllaaGreat
open Go.RowKit
set_option maxHeartbeats 1600000 in
set_option maxRecDepth 8000 in
theorem transpose_any (p : Int) (A : Option Addr) (n c : Nat) (M : List (List Int)) (m : Nat) (w : World) (h0 : 0 < n) (hn : n ≤ 65536) (hm : m ≤ 65536) (ha : RdII w A n M) (hT : Tab p m M) :
    Calls Tryz.prog 212 #[.slice A n c] w fun e w' => ∃ A' c', e = .returned (.slice A' m c') ∧ MkII w w' A' m c' (transL M) := by
  have hML := ha.len
  have HTL : Hid (transL M = tab m fun k => tab n fun i => ent M i k) := Lib.hid (by unfold transL; rw [(hT.row (show 0 < M.length by omega)).1, hML])
  have HT := Lib.hid hT
  have HML := Lib.hid hML
  have hM0 : MkII w (w.alloc (.cells #[] 24)) (some ⟨w.heap.size, 0, none⟩) 0 0 [] := MkII.empty (Below.refl _ _)
  obtain ⟨g, o, rfl, hx0, A0, c0, hcx0, _, _⟩ := (ha.below hM0.b).at_ h0
  have hl0 : M[0].length = m := (HT.out M[0] (List.getElem_mem hx0)).1
  rw [hl0, Nat.add_zero] at hcx0
  clear hT hML hl0
  go_enter Tryz.func212, Tryz.ntmps212
  go_wp2
  clear hcx0
  obtain ⟨w1, hw1⟩ : ∃ W, W = w.alloc (.cells #[] 24) := ⟨_, rfl⟩
  rw [← hw1] at hM0 ⊢
  clear hw1
  go_loopw [3, 12] (fun out i wr => ∃ (k : Nat) (A' : Option Addr) (c' : Nat), k ≤ m ∧ i = .int .i64 k ∧ out = .slice A' k c' ∧ MkII w wr A' k c' (tab k fun k => tab n fun i => ent M i k)) (fun _ i _ => m - (intOf i).toNat)
  case atStart => exact ⟨0, _, _, by omega, rfl, rfl, by simpa [tab] using hM0⟩
  case round =>
    obtain ⟨k, A', c', hk, rfl, rfl, hM⟩ := hrel
    clear hM0
    obtain ⟨wo, rfl⟩ : ∃ W, W = wr := ⟨_, rfl⟩
    by_cases hlt : k < m
    · have hr0 := Mk.lit (E := 2) (Below.refl wo.heap.size wo) #[] (by simp)
      have hR0 : MkI wo (wo.alloc (.cells #[] 2)) (some ⟨wo.heap.size, 0, none⟩) 0 0 [] := by simpa [MkI, ints] using hr0
      have HM := Lib.hid hM
      clear hr0 hM
      go_wp2
      go_loopw [5, 18] (fun row i w2 => ∃ (j : Nat) (A2 : Option Addr) (c2 : Nat), j ≤ n ∧ i = .int .i64 j ∧ row = .slice A2 j c2 ∧ MkI wo w2 A2 j c2 (tab j fun i => ent M i k)) (fun _ i _ => n - (intOf i).toNat)
      case atStart => exact ⟨0, _, _, by omega, rfl, rfl, by simpa [tab] using hR0⟩
      case round =>
        obtain ⟨j, A2, c2, hj, rfl, rfl, hR⟩ := hrel
        clear hR0
        have HR := Lib.hid hR
        by_cases hlj : j < n
        · have hbb := HM.out.b.trans (hR.b.mono HM.out.b.size)
          obtain ⟨g', o', e', hxj, A3, c3, hcx, hr3, _⟩ := (ha.below hbb).at_ hlj
          injection e' with e'; injection e' with e1 e2 _
          subst e1; subst e2
          have hl3 : M[j].length = m := (HT.out M[j] (List.getElem_mem hxj)).1
          rw [hl3] at hcx hr3
          obtain ⟨g3, o3, rfl, hx3, hc3⟩ := hr3.int hlt
          have HV : Hid ((tab (j + 1) fun i => ent M i k) = (tab j fun i => ent M i k) ++ [M[j][k]]) := Lib.hid (by rw [tab_succ, ent_at hxj hx3])
          clear hR hr3 hl3 hbb ha
          go_wp2_with (at_builtin; refine wpList_app1 wo _ 24 2 _ _ Tryz.underlying24 info_i rfl (by omega) rfl _ _ rfl A2 j c2 _ _ HR.out (by omega) rfl rfl rfl ?_; intro A4 c4 w4 hM4 _ _)
          go_roundw
          case rel => exact ⟨j + 1, A4, c4, by omega, by go_num, rfl, by rw [HV.out]; simpa [MkI, ints] using hM4⟩
          case measure => simp [intOf]; omega
        · obtain rfl : j = n := by omega
          clear hR ha
          go_wp2_with (at_builtin; refine wpList_appRow w wo _ rfl _ _ rfl A' k c' _ A2 j c2 _ HM.out HR.out (by omega) rfl ?_ ?_; (go_simp); intro A4 c4 w4 hM4)
          go_roundw
          case rel => exact ⟨k + 1, A4, c4, by omega, by go_num, rfl, by rw [tab_succ]; exact hM4⟩
          case measure => simp [intOf]; omega
    · go_wp2
      go_ret
      obtain rfl : k = m := by omega
      exact ⟨_, _, rfl, by rw [HTL.out]; exact hM⟩
set_option maxHeartbeats 1600000 in
set_option maxRecDepth 8000 in
theorem l02Turn_any (p : Int) (A : Option Addr) (n c : Nat) (M : List (List Int)) (m : Nat) (w : World) (h0 : 0 < n) (hn : n ≤ 65536) (hm : m ≤ 65536) (ha : RdII w A n M) (hT : Tab p m M) :
    Calls Tryz.prog 216 #[.slice A n c] w fun e w' => ∃ A' c', e = .returned (.slice A' m c') ∧ MkII w w' A' m c' (transL M) := by
  have hML := ha.len
  have HTL : Hid (transL M = tab m fun k => tab n fun i => ent M i k) := Lib.hid (by unfold transL; rw [(hT.row (show 0 < M.length by omega)).1, hML])
  have HT := Lib.hid hT
  have HML := Lib.hid hML
  have hM0 : MkII w (w.alloc (.cells #[] 24)) (some ⟨w.heap.size, 0, none⟩) 0 0 [] := MkII.empty (Below.refl _ _)
  obtain ⟨g, o, rfl, _⟩ := ha.at_ h0
  clear hT hML
  go_enter Tryz.func216, Tryz.ntmps216
  go_wp2
  obtain ⟨w1, hw1⟩ : ∃ W, W = w.alloc (.cells #[] 24) := ⟨_, rfl⟩
  rw [← hw1] at hM0 ⊢
  clear hw1
  go_loopw [3, 4] (fun out i wr => ∃ (k : Nat) (A' : Option Addr) (c' : Nat), k ≤ m ∧ i = .int .i64 k ∧ out = .slice A' k c' ∧ MkII w wr A' k c' (tab k fun k => tab n fun i => ent M i k)) (fun _ i _ => m - (intOf i).toNat)
  case atStart => exact ⟨0, _, _, by omega, rfl, rfl, by simpa [tab] using hM0⟩
  case round =>
    obtain ⟨k, A', c', hk, rfl, rfl, hM⟩ := hrel
    clear hM0
    obtain ⟨wo, rfl⟩ : ∃ W, W = wr := ⟨_, rfl⟩
    obtain ⟨A0, c0, hcx0⟩ := (ha.below hM.b).row0 h0 HT.out
    by_cases hlt : k < m
    · have hr0 := Mk.lit (E := 2) (Below.refl wo.heap.size wo) #[] (by simp)
      have hR0 : MkI wo (wo.alloc (.cells #[] 2)) (some ⟨wo.heap.size, 0, none⟩) 0 0 [] := by simpa [MkI, ints] using hr0
      have HM := Lib.hid hM
      clear hr0 hM
      go_wp2
      go_loopw [5, 6] (fun row i w2 => ∃ (j : Nat) (A2 : Option Addr) (c2 : Nat), j ≤ n ∧ i = .int .i64 j ∧ row = .slice A2 j c2 ∧ MkI wo w2 A2 j c2 (tab j fun i => ent M i k)) (fun _ i _ => n - (intOf i).toNat)
      case atStart => exact ⟨0, _, _, by omega, rfl, rfl, by simpa [tab] using hR0⟩
      case round =>
        obtain ⟨j, A2, c2, hj, rfl, rfl, hR⟩ := hrel
        clear hR0 hcx0
        have HR := Lib.hid hR
        by_cases hlj : j < n
        · have hbb := HM.out.b.trans (hR.b.mono HM.out.b.size)
          obtain ⟨g', o', e', hxj, A3, c3, hcx, hr3, _⟩ := (ha.below hbb).at_ hlj
          injection e' with e'; injection e' with e1 e2 _
          subst e1; subst e2
          have hl3 : M[j].length = m := (HT.out M[j] (List.getElem_mem hxj)).1
          rw [hl3] at hcx hr3
          obtain ⟨g3, o3, rfl, hx3, hc3⟩ := hr3.int hlt
          have HV : Hid ((tab (j + 1) fun i => ent M i k) = (tab j fun i => ent M i k) ++ [M[j][k]]) := Lib.hid (by rw [tab_succ, ent_at hxj hx3])
          clear hR hr3 hl3 hbb ha
          go_wp2_with (at_builtin; refine wpList_app1 wo _ 24 2 _ _ Tryz.underlying24 info_i rfl (by omega) rfl _ _ rfl A2 j c2 _ _ HR.out (by omega) rfl rfl rfl ?_; intro A4 c4 w4 hM4 _ _)
          go_roundw
          case rel => exact ⟨j + 1, A4, c4, by omega, by go_num, rfl, by rw [HV.out]; simpa [MkI, ints] using hM4⟩
          case measure => simp [intOf]; omega
        · obtain rfl : j = n := by omega
          clear hR ha
          go_wp2_with (at_builtin; refine wpList_appRow w wo _ rfl _ _ rfl A' k c' _ A2 j c2 _ HM.out HR.out (by omega) rfl ?_ ?_; (go_simp); intro A4 c4 w4 hM4)
          go_roundw
          case rel => exact ⟨k + 1, A4, c4, by omega, by go_num, rfl, by rw [tab_succ]; exact hM4⟩
          case measure => simp [intOf]; omega
    · go_wp2
      go_ret
      obtain rfl : k = m := by omega
      exact ⟨_, _, rfl, by rw [HTL.out]; exact hM⟩
end Go.Proofs.YtdbibmilicjllaaGreat
namespace Go.Proofs.YtdbibmilicjllaaGreat
open Go.RowKit
set_option maxHeartbeats 400000 in
set_option maxRecDepth 8000 in
theorem l01Prime_any (p : Int) (w : World) :
    Calls Tryz.prog 333 #[.int .i64 p] w fun e w' => e = .returned (.bool (isP p)) ∧ w = w' := by
  by_cases h3 : p = 3
  · subst h3
    go_enter Tryz.func333, Tryz.ntmps333
    go_wp2
    go_ret
    exact ⟨rfl, rfl⟩
  have b3 : (p == 3) = false := by simpa using h3
  by_cases h5 : p = 5
  · subst h5
    go_enter Tryz.func333, Tryz.ntmps333
    go_wp2
    go_ret
    exact ⟨rfl, rfl⟩
  have b5 : (p == 5) = false := by simpa using h5
  by_cases h7 : p = 7
  · subst h7
    go_enter Tryz.func333, Tryz.ntmps333
    go_wp2
    go_ret
    exact ⟨rfl, rfl⟩
  have b7 : (p == 7) = false := by simpa using h7
  by_cases h11 : p = 11
  · subst h11
    go_enter Tryz.func333, Tryz.ntmps333
    go_wp2
    go_ret
    exact ⟨rfl, rfl⟩
  have b11 : (p == 11) = false := by simpa using h11
  go_enter Tryz.func333, Tryz.ntmps333
  go_wp2
  go_ret
  exact ⟨ret_bool (by simp [isP, b3, b5, b7, b11]), rfl⟩
theorem l01Prime_b {b : Bool} (p : Int) (w : World) (h : isP p = b) :
    Calls Tryz.prog 333 #[.int .i64 p] w fun e w' => e = .returned (.bool b) ∧ w = w' := h ▸ l01Prime_any p w
set_option maxHeartbeats 400000 in
set_option maxRecDepth 8000 in
theorem l01In_any (n lo hi : Int) (w : World) :
    Calls Tryz.prog 263 #[.int .i64 n, .int .i64 lo, .int .i64 hi] w fun e w' => e = .returned (.bool (inR n lo hi)) ∧ w = w' := by
  by_cases h : lo ≤ n
  · go_enter Tryz.func263, Tryz.ntmps263
    go_wp2
    go_ret
    exact ⟨ret_bool (by simp [inR, h]), rfl⟩
  · go_enter Tryz.func263, Tryz.ntmps263
    go_wp2
    go_ret
    exact ⟨ret_bool (by simp [inR]; omega), rfl⟩
theorem l01In_b {b : Bool} (n lo hi : Int) (w : World) (h : inR n lo hi = b) :
    Calls Tryz.prog 263 #[.int .i64 n, .int .i64 lo, .int .i64 hi] w fun e w' => e = .returned (.bool b) ∧ w = w' := h ▸ l01In_any n lo hi w
set_option maxHeartbeats 400000 in
set_option maxRecDepth 8000 in
theorem l01Numbers_any (p : Int) (A : Option Addr) (n c : Nat) (xs : List Int) (w : World) (hp : 0 < p) (hp2 : p ≤ 100) (hn : n ≤ 1099511627776) (ha : Rd w A n (ints xs)) :
    Calls Tryz.prog 334 #[.int .i64 p, .slice A n c] w fun e w' => e = .returned (.bool (nums p xs)) ∧ w = w' := by
  have hxl : xs.length = n := by have := ha.1; rwa [ints_length] at this
  have Hx := Lib.hid hxl; clear hxl
  go_enter Tryz.func334, Tryz.ntmps334
  go_wp2
  go_loop [5] (fun i => ∃ k : Nat, k ≤ n ∧ i = .int .i64 k ∧ nums p (xs.take k) = true) (fun i => n - (intOf i).toNat)
  case atStart => exact ⟨0, by omega, rfl, by simp [nums]⟩
  case round =>
    obtain ⟨k, hk, rfl, ht⟩ := hrel
    have H := Lib.hid ht; clear ht
    by_cases hlt : k < n
    · obtain ⟨g, o, rfl, hx, hcx⟩ := ha.int hlt
      clear ha
      cases hi : inR xs[k] 0 (p - 1)
      all_goals
        have HI := Lib.hid hi; clear hi
        go_wp2_with (go_at_call 263; refine (l01In_b _ _ _ _ HI.out).mono ?_; rintro e w' ⟨rfl, rfl⟩)
      · go_ret
        exact ⟨ret_bool (nums_bad p xs k hx HI.out).symm, rfl⟩
      · go_round
        case rel => exact ⟨k + 1, by omega, by go_num, nums_take p xs k hx H.out HI.out⟩
        case measure => simp [intOf]; omega
    · go_wp2
      go_ret
      have := H.out
      rw [List.take_of_length_le (by rw [Hx.out]; omega)] at this
      exact ⟨ret_bool this.symm, rfl⟩
set_option maxHeartbeats 800000 in
set_option maxRecDepth 8000 in
theorem l03Is_any (P : Int) (A : Option Addr) (n c : Nat) (xs : List Int) (w : World) (hn : n ≤ 1099511627776) (ha : Rd w A n (ints xs)) :
    Calls Tryz.prog 156 #[.agg #[.int .i64 P, .slice A n c]] w fun e w' => e = .returned (.bool (isSp P xs)) ∧ Below w.heap.size w w' := by
  have hxl : xs.length = n := by have := ha.1; rwa [ints_length] at this
  have Hx := Lib.hid hxl; clear hxl
  have hB : Below w.heap.size w (w.alloc (.cells #[.int .i64 P, .slice A n c] 26)) := (Below.refl _ _).alloc (Nat.le_refl _) _
  have ha' := ha.below hB
  cases h1 : isP P
  · have H1 := Lib.hid h1; clear h1
    go_enter Tryz.func156, Tryz.ntmps156
    go_wp2_with (go_at_call 333; refine (l01Prime_b _ _ H1.out).mono ?_; rintro e w' ⟨rfl, rfl⟩)
    go_ret
    exact ⟨ret_bool (by simp [isSp, H1.out]), hB⟩
  · obtain ⟨hp0, hp1⟩ := isP_pos h1
    have H1 := Lib.hid h1; clear h1
    cases h2 : inR n 1 6
    · have H2 := Lib.hid h2; clear h2
      go_enter Tryz.func156, Tryz.ntmps156
      go_wp2_with (first | (go_at_call 333; refine (l01Prime_b _ _ H1.out).mono ?_; rintro e w' ⟨rfl, rfl⟩) | (go_at_call 263; refine (l01In_b _ _ _ _ H2.out).mono ?_; rintro e w' ⟨rfl, rfl⟩))
      go_ret
      exact ⟨ret_bool (by simp [isSp, H1.out, H2.out, Hx.out]), hB⟩
    · have H2 := Lib.hid h2; clear h2
      go_enter Tryz.func156, Tryz.ntmps156
      go_wp2_with (first | (go_at_call 333; refine (l01Prime_b _ _ H1.out).mono ?_; rintro e w' ⟨rfl, rfl⟩) | (go_at_call 263; refine (l01In_b _ _ _ _ H2.out).mono ?_; rintro e w' ⟨rfl, rfl⟩) | (go_at_call 334; refine (l01Numbers_any _ _ _ _ _ _ hp0 (by omega) hn ha').mono ?_; rintro e w' ⟨rfl, rfl⟩))
      go_ret
      exact ⟨ret_bool (by simp [isSp, H1.out, H2.out, Hx.out]), hB⟩
theorem l03Is_b {b : Bool} (P : Int) (A : Option Addr) (n c : Nat) (xs : List Int) (w : World) (hn : n ≤ 1099511627776) (ha : Rd w A n (ints xs)) (h : isSp P xs = b) :
    Calls Tryz.prog 156 #[.agg #[.int .i64 P, .slice A n c]] w fun e w' => e = .returned (.bool b) ∧ Below w.heap.size w w' := h ▸ l03Is_any P A n c xs w hn ha
end Go.Proofs.YtdbibmilicjllaaGreat
namespace Go.Proofs.YtdbibmilicjllaaGreat
open Go.RowKit
set_option maxHeartbeats 400000 in
set_option maxRecDepth 8000 in
theorem l04Size_any (P : Int) (A : Option Addr) (n c : Nat) (w : World) (hn : n ≤ 30) :
    Calls Tryz.prog 320 #[.agg #[.int .i64 P, .slice A n c]] w fun e w' => e = .returned (.int .i64 (pw n)) ∧ Below w.heap.size w w' := by
  go_enter Tryz.func320, Tryz.ntmps320
  go_wp2
  go_ret
  exact ⟨ret_int (wrap_pw n hn), (Below.refl _ _).alloc (Nat.le_refl _) _⟩
theorem inR_16 {n : Nat} (h : inR n 1 6 = true) : 1 ≤ n ∧ n ≤ 6 := by simp [inR] at h; omega
theorem isSp_dim {P : Int} {xs : List Int} (h : isSp P xs = true) : isP P = true ∧ 1 ≤ xs.length ∧ xs.length ≤ 6 ∧ nums P xs = true := by
  simp only [isSp, Bool.and_eq_true] at h
  obtain ⟨⟨h1, h2⟩, h3⟩ := h
  obtain ⟨h4, h5⟩ := inR_16 h2
  exact ⟨h1, h4, h5, h3⟩
end Go.Proofs.YtdbibmilicjllaaGreat
namespace Go.Proofs.YtdbibmilicjllaaGreat
open Go.RowKit
set_option maxHeartbeats 400000 in
set_option maxRecDepth 8000 in
theorem l04Zero_any (P : Int) (A : Option Addr) (n c : Nat) (w : World) (hn : n ≤ 10) :
    Calls Tryz.prog 239 #[.agg #[.int .i64 P, .slice A n c]] w fun e w' => ∃ A' c', e = .returned (.slice A' (pw n) c') ∧ MkI w w' A' (pw n) c' (List.replicate (pw n) 0) := by
  have hp : pw n ≤ 1024 := pw_le hn
  have hmk := make_i (P := Tryz.prog) 24 2 Tryz.underlying24 info_i (pw n) (by omega)
  go_enter Tryz.func239, Tryz.ntmps239
  go_wp2_with (go_at_call 320; refine (l04Size_any _ _ _ _ _ (by omega)).mono ?_; rintro e w1 ⟨rfl, hb1⟩)
  go_ret
  have hb2 := (((Below.refl _ _).alloc (Nat.le_refl _) _).trans (hb1.mono (by simp)))
  exact ⟨_, _, rfl, by have := Mk.made (E := 2) (n := pw n) (z := .int .i64 0) hb2 (by simp only [maxLen]; omega); rwa [ints_replicate] at this⟩
set_option maxHeartbeats 800000 in
set_option maxRecDepth 8000 in
theorem l04Vector_any (P : Int) (A : Option Addr) (n c : Nat) (X : Option Addr) (cx : Nat) (v : List Int) (w : World) (hn : n ≤ 10) (hx : Rd w X n (ints v)) :
    Calls Tryz.prog 223 #[.agg #[.int .i64 P, .slice A n c], .slice X n cx] w fun e w' => ∃ A' c', e = .returned (.slice A' (pw n) c') ∧ MkI w w' A' (pw n) c' (vecTo n v n) := by
  have hB0 : Below w.heap.size w (w.alloc (.cells #[.int .i64 P, .slice A n c] 26)) := (Below.refl _ w).alloc (Nat.le_refl _) _
  go_enter Tryz.func223, Tryz.ntmps223
  go_wp2_with (go_at_call 239; refine (l04Zero_any _ _ _ _ _ hn).mono ?_; rintro e w1 ⟨G, c1, rfl, hM1⟩)
  have hM := hM1.after hB0
  have hpos := pw_pos n
  rcases hM.2.form with ⟨_, h0⟩ | ⟨g, rfl, hg, _⟩
  · omega
  clear hM1 hB0 hg hpos
  go_loopw [6] (fun i wr => ∃ k : Nat, k ≤ n ∧ i = .int .i64 k ∧ MkI w wr (some ⟨g, 0, none⟩) (pw n) c1 (vecTo n v k)) (fun i _ => n - (intOf i).toNat)
  case atStart => exact ⟨0, by omega, rfl, by simpa [vecTo] using hM⟩
  case round =>
    obtain ⟨k, hk, rfl, hM2⟩ := hrel
    clear hM
    by_cases hlt : k < n
    · obtain ⟨gx, ox, rfl, hxk, hcx⟩ := (hx.below hM2.b).int hlt
      have hvn : v.getD k 0 = v[k] := by rw [List.getD_eq_getElem?_getD, List.getElem?_eq_getElem hxk]; rfl
      have h2 := two_lt hlt
      have hset := (hM2.set (2 ^ k) (.int .i64 v[k])).1
      rw [ints_set, ← hvn, ← vecTo_succ, hvn] at hset
      have hw : wrap64 (2 ^ k) = ((2 ^ k : Nat) : Int) := wrap_pw k (by omega)
      obtain ⟨q, hq⟩ : ∃ q : Nat, q = 2 ^ k := ⟨_, rfl⟩
      rw [← hq] at h2 hset hw
      obtain ⟨hoc, hof⟩ := mkI_at hM2 h2
      have HS := Lib.hid hset
      clear hq
      clear hvn hset hM2
      go_wp2
      go_roundw
      case rel => exact ⟨k + 1, by omega, by go_num, HS.out⟩
      case measure => simp [intOf]; omega
    · obtain rfl : k = n := by omega
      go_wp2
      go_ret
      exact ⟨_, _, rfl, hM2⟩
end Go.Proofs.YtdbibmilicjllaaGreat
namespace Go.Proofs.YtdbibmilicjllaaGreat
open Go.RowKit
/-- The value is a slice of one new row in a block of its own. -/
def VNew (w0 : World) (n : Nat) (L : List Int) : VP := ⟨fun v w => ∃ g A c, v = .slice (some ⟨g, 0, none⟩) 1 1 ∧ Blk w g 24 #[.slice A n c] ∧ MkI w0 w A n c L, fun _ _ _ ⟨g, A, c, e, b, h⟩ hb => ⟨g, A, c, e, b.below hb b.lt, h.below hb⟩⟩
/-- A new row, in a block of its own, is appended. -/
theorem wp_appRow {o : Oper} {a : Act} {K : Act → World → Prop} {Q : Exit → Act → World → Prop} (w0 wr w1 : World)
    (s x : Operand) (ho : o.op = .call { callee := .builtin .append, args := #[s, x], argTypes := #[27, 27] })
    (A : Option Addr) (n c : Nat) (xss : List (List Int)) (A1 : Option Addr) (m c1 : Nat) (xs : List Int) (hM : MkII w0 wr A n c xss) (hr : Mk wr w1 2 A1 m c1 (ints xs)) (hn : n ≤ 1099511627776) (g : Nat) (hB : Blk w1 g 24 #[.slice A1 m c1])
    (hs : a.eval s = .slice A n c) (hx : a.eval x = .slice (some ⟨g, 0, none⟩) 1 1)
    (h : ∀ A' c' w', MkII w0 w' A' (n + 1) c' (xss ++ [xs]) → w1.grownBy w' (Value.slice A n c).ownBlock → (∃ g, A' = some ⟨g, 0, none⟩ ∧ ((Value.slice A n c).ownBlock = some g ∨ w1.heap.size ≤ g)) → K (a.put o.dst (.slice A' (n + 1) c')) w') : o.wp Tryz.prog a w1 K Q := by
  obtain ⟨rows, hm, hnest⟩ := hM
  have hm1 := hm.below hr.1
  have hn1 := hnest.snoc hr hm.1.size
  obtain ⟨i, hi, h1, h2, h3⟩ := info_parts info_s
  obtain ⟨b1, b2⟩ := bound_of hn
  refine wp_append_lies w1 s x 27 ho w0.heap.size 24 i (.slice none 0 0) 1 24 Tryz.underlying27 hi h1 h2 h3 rfl (by omega) (.slice A n c) n rows hs hm1.2 ⟨g, 0, none⟩ 1 1 [.slice A1 m c1] hx rfl (fun j v hv => ?_)
    (by intro v hv; simp at hv; rw [hv]; rfl) (by omega) b1 (b2 _ (by omega)) hm1.1.size _ rfl (fun g' cap w' hown hg hat _ => h _ _ _ ⟨_, ⟨hm1.1.grown hg hm1.1.size (fun k hk => (hm1.2.lt k hk).1), hown⟩, hn1.grown hm1.2 (by decide) hg⟩ hg ⟨g', rfl, hat.imp id (fun e => by omega)⟩)
  match j, hv with
  | 0, hv => simp at hv; subst hv; rw [Addr.add_lit]; exact hB.cell 0
end Go.Proofs.YtdbibmilicjllaaGreat
namespace Go.Proofs.YtdbibmilicjllaaGreat
open Go.RowKit
theorem is_b {b : Bool} (p : Int) (A : Option Addr) (n c : Nat) (xs : List Int) (w : World) (hp : 0 < p) (hp2 : p ≤ 100) (hn : n ≤ 1099511627776) (ha : Rd w A n (ints xs)) (h : nums p xs = b) :
    Calls Tryz.prog 183 #[.int .i64 p, .slice A n c] w fun e w' => e = .returned (.bool b) ∧ w = w' := h ▸ is_any p A n c xs w hp hp2 hn ha
end Go.Proofs.YtdbibmilicjllaaGreat
namespace Go.Proofs.YtdbibmilicjllaaGreat
open Go.RowKit
/-- Is no square 0? -/
def regB (sq : List Int) : Bool := !(sq.contains 0)
set_option maxHeartbeats 400000 in
set_option maxRecDepth 8000 in
theorem regular_any (P : Int) (A : Option Addr) (n c : Nat) (sq : List Int) (w : World) (hn : n ≤ 1048576) (ha : Rd w A n (ints sq)) :
    Calls Tryz.prog 146 #[.agg #[.int .i64 P, .slice A n c]] w fun e w' => e = .returned (.bool (regB sq)) ∧ Below w.heap.size w w' := by
  have hB : Below w.heap.size w (w.alloc (.cells #[.int .i64 P, .slice A n c] 26)) := (Below.refl _ _).alloc (Nat.le_refl _) _
  have k0 : Blk (w.alloc (.cells #[.int .i64 P, .slice A n c] 26)) w.heap.size 26 #[.int .i64 P, .slice A n c] := Blk.new _ _ _
  obtain ⟨b, hb⟩ : ∃ b, b = sq.contains 0 := ⟨_, rfl⟩
  have HB := Lib.hid hb
  clear hb
  go_enter Tryz.func146, Tryz.ntmps146
  go_wp2_with (go_at_call 327; refine (Contains_b _ _ _ _ _ _ (by omega) (ha.below hB) HB.out.symm).mono ?_; rintro e w' ⟨rfl, rfl⟩)
  go_ret
  exact ⟨ret_bool (by unfold regB; rw [HB.out]), hB⟩
theorem code_ne {a : Int} (h : ¬ a = 0) : (a != 0) = true := by simp [h]
/-- The product of the first k squares. -/
def discT (p : Int) (sq : List Int) : Nat → Int
  | 0 => 1
  | k + 1 => discT p sq k * sq.getD k 0 % p
theorem discT_small (p : Int) (sq : List Int) (hp : 2 ≤ p) : ∀ k, 0 ≤ discT p sq k ∧ discT p sq k < p := by
  intro k
  cases k with
  | zero => simp only [discT]; omega
  | succ k => exact emod_small _ _ (by omega)
theorem mul_zero_all : ∀ p ∈ [(3 : Nat), 5, 7, 11, 13], ∀ a < p, ∀ b < p, a * b % p = 0 → a = 0 ∨ b = 0 := by decide +kernel
theorem mul_zero_mod {p a b : Int} (h : isP p = true) (ha : 0 ≤ a ∧ a < p) (hb : 0 ≤ b ∧ b < p) (h0 : a * b % p = 0) : a = 0 ∨ b = 0 := by
  have hm : p.toNat ∈ [(3 : Nat), 5, 7, 11, 13] := by
    have : p = 3 ∨ p = 5 ∨ p = 7 ∨ p = 11 ∨ p = 13 := by simp [isP] at h; omega
    rcases this with rfl | rfl | rfl | rfl | rfl <;> decide
  have hp : 0 < p := by omega
  have e : ((a.toNat * b.toNat % p.toNat : Nat) : Int) = 0 := by
    rw [Int.natCast_emod, Int.natCast_mul, Int.toNat_of_nonneg ha.1, Int.toNat_of_nonneg hb.1, Int.toNat_of_nonneg (by omega)]; exact h0
  have := mul_zero_all p.toNat hm a.toNat (by omega) b.toNat (by omega) (by omega)
  omega
theorem discT_zero {p : Int} (h : isP p = true) {sq : List Int} (hs : NumsL p sq) : ∀ k, k ≤ sq.length → (discT p sq k = 0 ↔ ∃ i, i < k ∧ sq.getD i 0 = 0) := by
  have hp := isP_ge h
  intro k
  induction k with
  | zero =>
    intro _
    simp only [discT]
    constructor
    · intro h; omega
    · rintro ⟨i, hi, _⟩; omega
  | succ k ih =>
    intro hk
    have ih := ih (by omega)
    simp only [discT]
    constructor
    · intro h0
      rcases mul_zero_mod h (discT_small p sq (by omega) k) (hs.getD (by omega) k) h0 with h1 | h1
      · obtain ⟨i, hi, hz⟩ := ih.1 h1; exact ⟨i, by omega, hz⟩
      · exact ⟨k, by omega, h1⟩
    · rintro ⟨i, hi, hz⟩
      by_cases hik : i = k
      · subst hik; rw [hz, Int.mul_zero]; rfl
      · rw [ih.2 ⟨i, by omega, hz⟩, Int.zero_mul]; rfl
theorem disc_reg {p : Int} (h : isP p = true) {sq : List Int} (hs : NumsL p sq) : (discT p sq sq.length == 0) = !(regB sq) := by
  unfold regB
  rw [Bool.not_not, Bool.eq_iff_iff, beq_iff_eq, discT_zero h hs _ (Nat.le_refl _), List.contains_iff_mem]
  constructor
  · rintro ⟨i, hi, hz⟩
    rw [List.getD_eq_getElem?_getD, List.getElem?_eq_getElem hi] at hz
    have : sq[i] = 0 := hz
    rw [← this]; exact List.getElem_mem hi
  · intro hm
    obtain ⟨i, hi, he⟩ := List.getElem_of_mem hm
    exact ⟨i, hi, by rw [List.getD_eq_getElem?_getD, List.getElem?_eq_getElem hi]; exact he⟩
set_option maxHeartbeats 800000 in
set_option maxRecDepth 8000 in
theorem l03Disc_any (P : Int) (A : Option Addr) (n c : Nat) (sq : List Int) (w : World) (hp : 2 ≤ P) (hp2 : P ≤ 13) (hn : n ≤ 1048576) (ha : Rd w A n (ints sq)) (hs : NumsL P sq) :
    Calls Tryz.prog 157 #[.agg #[.int .i64 P, .slice A n c]] w fun e w' => e = .returned (.int .i64 (discT P sq n)) ∧ Below w.heap.size w w' := by
  have hB : Below w.heap.size w (w.alloc (.cells #[.int .i64 P, .slice A n c] 26)) := (Below.refl _ _).alloc (Nat.le_refl _) _
  have k0 : Blk (w.alloc (.cells #[.int .i64 P, .slice A n c] 26)) w.heap.size 26 #[.int .i64 P, .slice A n c] := Blk.new _ _ _
  go_enter Tryz.func157, Tryz.ntmps157
  go_wp2
  obtain ⟨w1, hw1⟩ : ∃ W, W = w.alloc (.cells #[.int .i64 P, .slice A n c] 26) := ⟨_, rfl⟩
  rw [← hw1] at hB k0 ⊢
  clear hw1
  go_loopw [3, 4] (fun o i wr => ∃ (k : Nat) (q : Nat), k ≤ n ∧ i = .int .i64 k ∧ o = .int .i64 (discT P sq k) ∧ wr = w1.drewN q) (fun _ i _ => n - (intOf i).toNat)
  case atStart => exact ⟨0, 0, by omega, rfl, rfl, rfl⟩
  case round =>
    obtain ⟨k, q, hk, rfl, rfl, rfl⟩ := hrel
    obtain ⟨q0, q1⟩ := k0.two
    by_cases hlt : k < n
    · obtain ⟨g, o, rfl, hx, hcx⟩ := (ha.below hB).int hlt
      obtain ⟨x1, x2⟩ := hs _ (List.getElem_mem hx)
      obtain ⟨d1, d2⟩ := discT_small P sq hp k
      obtain ⟨m1, m2⟩ := mul_small d1 (show discT P sq k ≤ 13 by omega) x1 (show sq[k] ≤ 13 by omega)
      have HV : Hid (discT P sq (k + 1) = discT P sq k * sq[k] % P) := Lib.hid (by simp only [discT]; rw [List.getD_eq_getElem?_getD, List.getElem?_eq_getElem hx]; rfl)
      obtain ⟨D, hD⟩ : ∃ D, D = discT P sq k := ⟨_, rfl⟩
      rw [← hD] at HV m1 m2 d1 d2 ⊢
      have i1 : (0 : Int) ≤ (k : Int) := by omega
      have i2 : (k : Int) < (n : Int) := by omega
      have hP0 : ¬ P = 0 := by omega
      have W1 : IntKind.i64.wrap (D * sq[k]) = D * sq[k] := by rw [IntWalk.i64_left]; exact wrap_in _ (by omega) (by omega)
      have W2 : (D * sq[k]).tmod P = D * sq[k] % P := Int.tmod_eq_emod_of_nonneg (by omega)
      clear hD
      go_wp2
      go_quiet (fail)
      go_wp2
      go_roundw
      case rel => exact ⟨k + 1, _, by omega, by go_num, by rw [HV.out], rfl⟩
      case measure => simp [intOf]; omega
    · obtain rfl : k = n := by omega
      go_wp2
      go_ret
      exact ⟨rfl, below_drewN hB _⟩
theorem nums_numsL {P : Int} {xs : List Int} (h : nums P xs = true) : NumsL P xs := fun x hx => by
  have := List.all_eq_true.1 h x hx
  simp [inR] at this
  omega
end Go.Proofs.YtdbibmilicjllaaGreat
namespace Go.Proofs.YtdbibmilicjllaaGreat
open Go.RowKit
/-- The bracket. -/
def brkL (p : Int) (sq : List Int) (n : Nat) (xs ys : List Int) : List Int := plusL p (timesL p sq n [xs, ys]) (timesL p sq n [ys, xs]) (-1)
end Go.Proofs.YtdbibmilicjllaaGreat
namespace Go.Proofs.YtdbibmilicjllaaGreat
theorem xor_eq_iff (a k m : Nat) : a ^^^ k = m ↔ k = a ^^^ m := by
  constructor
  · rintro rfl; rw [← Nat.xor_assoc, Nat.xor_self, Nat.zero_xor]
  · rintro rfl; rw [← Nat.xor_assoc, Nat.xor_self, Nat.zero_xor]
/-- What row a adds to place m. -/
def term (p : Int) (sq : List Int) (t : Nat → Nat → Bool) (x y : List Int) (m a : Nat) : Int :=
  if t a (a ^^^ m) = true then x.getD a 0 * y.getD (a ^^^ m) 0 * fac p sq a (a ^^^ m) else 0
theorem addRow_getD (p : Int) (sq : List Int) (t : Nat → Nat → Bool) (x y : List Int) (a : Nat) (out : List Int) (m : Nat) (hm : m < out.length) (h0 : out.getD m 0 % p = out.getD m 0) :
    ∀ k, (addRow p sq t x y a out k).getD m 0 = if a ^^^ m < k then (out.getD m 0 + term p sq t x y m a) % p else out.getD m 0 := by
  intro k
  induction k with
  | zero => rw [if_neg (by omega)]; simp [addRow]
  | succ k ih =>
    rw [addRow_succ]
    have hl : (addRow p sq t x y a out k).length = out.length := addRow_len _ _ _ _ _ _ _ _
    unfold addPair
    by_cases hk : a ^^^ k = m
    · have hk' := (xor_eq_iff a k m).1 hk
      have h1 : ¬ a ^^^ m < k := by omega
      have h2 : a ^^^ m < k + 1 := by omega
      rw [if_neg h1] at ih
      rw [if_pos (c := a ^^^ m < k + 1) h2]
      unfold term
      rw [← hk']
      by_cases hc : x.getD a 0 ≠ 0 ∧ y.getD k 0 ≠ 0 ∧ t a k = true
      · rw [if_pos hc, if_pos hc.2.2, getD_set, if_pos ⟨hk, by rw [hl, hk]; exact hm⟩, hk, ih]
      · rw [if_neg hc, ih]
        by_cases ht : t a k = true
        · rw [if_pos ht]
          have : x.getD a 0 * y.getD k 0 = 0 := by
            by_cases h1 : x.getD a 0 = 0
            · rw [h1, Int.zero_mul]
            · by_cases h2 : y.getD k 0 = 0
              · rw [h2, Int.mul_zero]
              · exact absurd ⟨h1, h2, ht⟩ hc
          rw [this, Int.zero_mul, Int.add_zero, h0]
        · rw [if_neg ht, Int.add_zero, h0]
    · have hk' : k ≠ a ^^^ m := fun e => hk ((xor_eq_iff a k m).2 e)
      have e : (if x.getD a 0 ≠ 0 ∧ y.getD k 0 ≠ 0 ∧ t a k = true then (addRow p sq t x y a out k).set (a ^^^ k) (((addRow p sq t x y a out k).getD (a ^^^ k) 0 + x.getD a 0 * y.getD k 0 * fac p sq a k) % p) else addRow p sq t x y a out k).getD m 0 = (addRow p sq t x y a out k).getD m 0 := by
        split
        · rw [getD_set, if_neg (fun h => hk h.1)]
        · rfl
      rw [e, ih]
      by_cases h1 : a ^^^ m < k
      · rw [if_pos h1, if_pos (by omega)]
      · rw [if_neg h1, if_neg (by omega)]
theorem addRows_getD (p : Int) (sq : List Int) (t : Nat → Nat → Bool) (x y : List Int) (n m : Nat) (hy : y.length = pw n) (hm : m < pw n) :
    ∀ k, k ≤ pw n → (addRows p sq t x y (List.replicate (pw n) 0) k).getD m 0 = sumTo k (term p sq t x y m) % p := by
  intro k
  induction k with
  | zero =>
    intro _
    rw [show addRows p sq t x y (List.replicate (pw n) 0) 0 = List.replicate (pw n) 0 from rfl, getD_of_lt 0 (by simpa using hm)]
    simp [sumTo]
  | succ k ih =>
    intro hk
    have ih := ih (by omega)
    have hl : (addRows p sq t x y (List.replicate (pw n) 0) k).length = pw n := by rw [addRows_len]; simp
    rw [addRows_succ, addRow_getD p sq t x y k _ m (by rw [hl]; exact hm) (by rw [ih, Int.emod_emod_of_dvd _ (Int.dvd_refl p)]), if_pos (by rw [hy]; exact xor_lt (by omega) hm), ih]
    exact sumTo_step p k _
theorem prodL_getD (p : Int) (sq : List Int) (t : Nat → Nat → Bool) (x y : List Int) (n m : Nat) (hx : x.length = pw n) (hy : y.length = pw n) (hm : m < pw n) :
    (prodL p sq t x y).getD m 0 = sumTo (pw n) (term p sq t x y m) % p := by
  unfold prodL
  rw [hx]
  exact addRows_getD p sq t x y n m hy hm _ (Nat.le_refl _)
theorem sumTo_zero {n : Nat} {f : Nat → Int} (h : ∀ i, i < n → f i = 0) : sumTo n f = 0 := by
  induction n with
  | zero => rfl
  | succ n ih => rw [sumTo_succ, ih (fun i hi => h i (by omega)), h n (by omega)]; rfl
theorem sumTo_one {n : Nat} {f : Nat → Int} (k : Nat) (hk : k < n) (h : ∀ i, i < n → i ≠ k → f i = 0) : sumTo n f = f k := by
  induction n with
  | zero => omega
  | succ n ih =>
    rw [sumTo_succ]
    by_cases e : k = n
    · subst e; rw [sumTo_zero (fun i hi => h i (by omega) (by omega)), Int.zero_add]
    · rw [ih (by omega) (fun i hi => h i (by omega)), h n (by omega) (by omega), Int.add_zero]
theorem sumTo_add (n : Nat) (f g : Nat → Int) : sumTo n (fun i => f i + g i) = sumTo n f + sumTo n g := by
  induction n with
  | zero => rfl
  | succ n ih => rw [sumTo_succ, sumTo_succ, sumTo_succ, ih]; omega
theorem sumTo_mul (n : Nat) (f : Nat → Int) (c : Int) : sumTo n (fun i => c * f i) = c * sumTo n f := by
  induction n with
  | zero => simp [sumTo]
  | succ n ih => rw [sumTo_succ, sumTo_succ, ih, Int.mul_add]
theorem sumTo_comm (n m : Nat) (f : Nat → Nat → Int) : sumTo n (fun i => sumTo m (f i)) = sumTo m (fun j => sumTo n (fun i => f i j)) := by
  induction n with
  | zero => exact (sumTo_zero (fun _ _ => rfl)).symm
  | succ n ih => rw [sumTo_succ, ih, ← sumTo_add]; rfl
theorem pc_zero : pc 0 = 0 := by simp [pc]
theorem bit_zero (i : Nat) : bit 0 i = 0 := by simp [bit]
theorem fac_zero_left (p : Int) (sq : List Int) (b : Nat) : fac p sq 0 b = 1 := by
  have h1 : ∀ i, swaps 0 b i = 0 := by
    intro i
    induction i with
    | zero => rfl
    | succ i ih => simp [swaps, ih, pc_zero]
  have h2 : ∀ i, common p sq 0 b i = 1 := by
    intro i
    induction i with
    | zero => rfl
    | succ i ih => simp [common, ih, bit_zero]
  unfold fac
  rw [h1, h2]; rfl
theorem bladeL_getD (n m i : Nat) (hi : i < pw n) : (bladeL n m).getD i 0 = if m = i then 1 else 0 := by
  unfold bladeL
  rw [getD_set]
  by_cases h : m = i
  · subst h; rw [if_pos ⟨rfl, by simpa using hi⟩, if_pos rfl]
  · rw [if_neg (fun hh => h hh.1), if_neg h, getD_of_lt 0 (by simpa using hi)]; simp
/-- 1 times a multivector. -/
theorem one_mul (p : Int) (sq : List Int) (n : Nat) (xs : List Int) (hx : xs.length = pw n) (hn : NumsL p xs) : mulL p sq (bladeL n 0) xs = xs := by
  apply list_ext_getD 0 (by unfold mulL; rw [prodL_len, bladeL_len, hx])
  intro m hm
  have hm : m < pw n := by unfold mulL at hm; rwa [prodL_len, bladeL_len] at hm
  unfold mulL
  rw [prodL_getD p sq _ _ xs n m (bladeL_len n 0) hx hm, sumTo_one 0 (pw_pos n) (fun i hi h0 => by unfold term; rw [if_pos rfl, bladeL_getD n 0 i hi, if_neg (fun e => h0 e.symm), Int.zero_mul, Int.zero_mul])]
  unfold term
  rw [if_pos rfl, bladeL_getD n 0 0 (pw_pos n), if_pos rfl, Nat.zero_xor, fac_zero_left, Int.one_mul, Int.mul_one]
  obtain ⟨h1, h2⟩ := hn _ (getD_mem 0 (by rw [hx]; exact hm))
  exact Int.emod_eq_of_lt h1 h2
theorem mulL_len (p : Int) (sq xs ys : List Int) : (mulL p sq xs ys).length = xs.length := prodL_len _ _ _ _ _
theorem mulL_nums {p : Int} (hp : 0 < p) (sq xs ys : List Int) : NumsL p (mulL p sq xs ys) := prodL_nums sq _ _ _ hp
theorem timesL_two (p : Int) (sq : List Int) (n : Nat) (xs ys : List Int) (hx : xs.length = pw n) (hn : NumsL p xs) : timesL p sq n [xs, ys] = mulL p sq xs ys := by
  show mulL p sq (mulL p sq (bladeL n 0) xs) ys = _
  rw [one_mul p sq n xs hx hn]
end Go.Proofs.YtdbibmilicjllaaGreat
namespace Go.Proofs.YtdbibmilicjllaaGreat
open Go.RowKit
/-- The places 1, 2, 4, .. of a list. -/
def partL (n : Nat) (x : List Int) : List Int := (List.range n).map fun i => x.getD (2 ^ i) 0
theorem partL_len (n : Nat) (x : List Int) : (partL n x).length = n := by simp [partL]
theorem partL_nums {p : Int} (hp : 0 < p) (n : Nat) (x : List Int) (h : NumsL p x) : NumsL p (partL n x) := fun y hy => by
  obtain ⟨i, _, rfl⟩ := List.mem_map.1 hy
  exact h.getD hp _
theorem partL_succ (k : Nat) (x : List Int) : partL (k + 1) x = partL k x ++ [x.getD (2 ^ k) 0] := by simp [partL, List.range_succ]
set_option maxHeartbeats 800000 in
set_option maxRecDepth 8000 in
theorem l04List_any (P : Int) (A : Option Addr) (n c : Nat) (X : Option Addr) (cx : Nat) (x : List Int) (w : World) (hn : n ≤ 10) (hx : Rd w X (pw n) (ints x)) :
    Calls Tryz.prog 229 #[.agg #[.int .i64 P, .slice A n c], .slice X (pw n) cx] w fun e w' => ∃ A' c', e = .returned (.slice A' n c') ∧ MkI w w' A' n c' (partL n x) := by
  have hB0 : Below w.heap.size w (w.alloc (.cells #[.int .i64 P, .slice A n c] 26)) := (Below.refl _ w).alloc (Nat.le_refl _) _
  have hk0 : Blk (w.alloc (.cells #[.int .i64 P, .slice A n c] 26)) w.heap.size 26 #[.int .i64 P, .slice A n c] := Blk.new w _ _
  have hM0 := Mk.lit (E := 2) hB0 #[] (by simp)
  have hM : MkI w ((w.alloc (.cells #[.int .i64 P, .slice A n c] 26)).alloc (.cells #[] 2)) (some ⟨w.heap.size + 1, 0, none⟩) 0 0 [] := by simpa [MkI, ints] using hM0
  have hk1 := hk0.alloc (.cells #[] 2)
  go_enter Tryz.func229, Tryz.ntmps229
  go_wp2
  clear hM0 hB0 hk0
  obtain ⟨w1, hw1⟩ : ∃ W, W = (w.alloc (.cells #[.int .i64 P, .slice A n c] 26)).alloc (.cells #[] 2) := ⟨_, rfl⟩
  rw [← hw1] at hM hk1 ⊢
  clear hw1
  go_loopw [5, 6] (fun out i wr => ∃ (k : Nat) (A' : Option Addr) (c' : Nat), k ≤ n ∧ i = .int .i64 k ∧ out = .slice A' k c' ∧ MkI w wr A' k c' (partL k x) ∧ Blk wr w.heap.size 26 #[.int .i64 P, .slice A n c]) (fun _ i _ => n - (intOf i).toNat)
  case atStart => exact ⟨0, _, _, by omega, rfl, rfl, by simpa [partL] using hM, hk1⟩
  case round =>
    obtain ⟨k, A', c', hk, rfl, rfl, hM2, hk2⟩ := hrel
    clear hM hk1
    obtain ⟨kc0, kc1⟩ := hk2.two
    by_cases hlt : k < n
    · have h2 := two_lt hlt
      have hw : wrap64 (2 ^ k) = ((2 ^ k : Nat) : Int) := wrap_pw k (by omega)
      obtain ⟨q, hq⟩ : ∃ q : Nat, q = 2 ^ k := ⟨_, rfl⟩
      rw [← hq] at h2 hw
      obtain ⟨gx, ox, rfl, hxk, hcx⟩ := (hx.below hM2.b).int h2
      have HV : Hid (partL (k + 1) x = partL k x ++ [x[q]]) := Lib.hid (by rw [partL_succ, ← hq, List.getD_eq_getElem?_getD, List.getElem?_eq_getElem hxk]; rfl)
      have HM := Lib.hid hM2
      have HNE := Lib.hid (Own.ne_blk hM2.2 hk2 (by decide))
      clear hq hM2
      go_wp2_with (at_builtin; refine wpList_app1 w _ 24 2 _ _ Tryz.underlying24 info_i rfl (by omega) rfl _ _ rfl A' k c' _ _ HM.out (by omega) rfl rfl rfl ?_; intro A2 c2 w2 hM3 hgr _)
      have hk3 := hk2.grown hgr HNE.out
      go_roundw
      case rel => exact ⟨k + 1, A2, c2, by omega, by go_num, rfl, by rw [HV.out]; simpa [MkI, ints] using hM3, hk3⟩
      case measure => simp [intOf]; omega
    · obtain rfl : k = n := by omega
      go_wp2
      go_ret
      exact ⟨_, _, rfl, hM2⟩
end Go.Proofs.YtdbibmilicjllaaGreat
namespace Go.Proofs.YtdbibmilicjllaaGreat
open Go.RowKit
theorem Blk.newAt3 {w : World} {t : TypeId} {cs : Array Value} {g : Nat} (hg : g = w.heap.size) : Blk (w.alloc (.cells cs t)) g t cs := hg ▸ Blk.new w t cs
end Go.Proofs.YtdbibmilicjllaaGreat
namespace Go.Proofs.YtdbibmilicjllaaGreat
open Go.RowKit
theorem sumTo_169 {n : Nat} {f : Nat → Int} (h : ∀ i, i < n → 0 ≤ f i ∧ f i ≤ 169) : 0 ≤ sumTo n f ∧ sumTo n f ≤ 169 * (n : Int) := by
  induction n with
  | zero => simp [sumTo]
  | succ n ih =>
    obtain ⟨a, b⟩ := ih fun i hi => h i (by omega)
    obtain ⟨c, d⟩ := h n (by omega)
    rw [sumTo_succ]
    omega
set_option maxHeartbeats 800000 in
set_option maxRecDepth 8000 in
theorem dot_any (p : Int) (A : Option Addr) (n c : Nat) (B : Option Addr) (m d : Nat) (xs ys : List Int) (w : World) (hp : 2 ≤ p) (hp2 : p ≤ 13) (hn : n ≤ 65536) (hnm : n ≤ m) (ha : Rd w A n (ints xs)) (hx : NumsL p xs) (hb : Rd w B m (ints ys)) (hy : NumsL p ys) :
    Calls Tryz.prog 295 #[.int .i64 p, .slice A n c, .slice B m d] w fun e w' => e = .returned (.int .i64 (dotL p xs ys)) ∧ w = w' := by
  have hxl := ha.lenI
  have hyl := hb.lenI
  have hsb : Hid (∀ j, j ≤ n → 0 ≤ (sumTo j fun i => xs.getD i 0 * ys.getD i 0) ∧ (sumTo j fun i => xs.getD i 0 * ys.getD i 0) ≤ 169 * (j : Int)) := Lib.hid (fun j hj => sumTo_169 (n := j) (f := fun i => xs.getD i 0 * ys.getD i 0) fun i hi => by
    show 0 ≤ xs.getD i 0 * ys.getD i 0 ∧ xs.getD i 0 * ys.getD i 0 ≤ 169
    have h1 : i < xs.length := by omega
    have h2 : i < ys.length := by omega
    rw [getD_of_lt 0 h1, getD_of_lt 0 h2]
    obtain ⟨a1, a2⟩ := hx _ (List.getElem_mem h1)
    obtain ⟨b1, b2⟩ := hy _ (List.getElem_mem h2)
    exact mul_small a1 (show xs[i] ≤ 13 by omega) b1 (show ys[i] ≤ 13 by omega))
  have Hx := Lib.hid hxl
  clear hxl hyl
  go_enter Tryz.func295, Tryz.ntmps295
  go_wp2
  go_loopw [7, 8, 9, 12] (fun s _ _ i wr => ∃ j : Nat, j ≤ n ∧ i = .int .i64 j ∧ s = .int .i64 (sumTo j fun i => xs.getD i 0 * ys.getD i 0) ∧ wr = w) (fun _ _ _ i _ => n - (intOf i).toNat)
  case atStart => exact ⟨0, by omega, rfl, rfl, rfl⟩
  case round =>
    obtain ⟨j, hj, rfl, rfl, rfl⟩ := hrel
    obtain ⟨b1, b2⟩ := hsb.out j hj
    have hsucc : Hid ((sumTo (j + 1) fun i => xs.getD i 0 * ys.getD i 0) = (sumTo j fun i => xs.getD i 0 * ys.getD i 0) + xs.getD j 0 * ys.getD j 0) := Lib.hid (sumTo_succ _ _)
    have hdot : Hid (j = n → dotL p xs ys = (sumTo j fun i => xs.getD i 0 * ys.getD i 0) % p) := Lib.hid (fun h => by unfold dotL; rw [Hx.out, h])
    obtain ⟨s, hs⟩ : ∃ s, s = sumTo j fun i => xs.getD i 0 * ys.getD i 0 := ⟨_, rfl⟩
    rw [← hs] at b1 b2 hsucc hdot ⊢
    clear hs
    by_cases hlt : j < n
    · obtain ⟨g, o, rfl, hxj, hcx⟩ := ha.int hlt
      obtain ⟨g2, o2, rfl, hyj, hcy⟩ := hb.int (show j < m by omega)
      obtain ⟨x1, x2⟩ := hx _ (List.getElem_mem hxj)
      obtain ⟨y1, y2⟩ := hy _ (List.getElem_mem hyj)
      obtain ⟨m1, m2⟩ := mul_small x1 (show xs[j] ≤ 13 by omega) y1 (show ys[j] ≤ 13 by omega)
      have HV : Hid ((sumTo (j + 1) fun i => xs.getD i 0 * ys.getD i 0) = s + xs[j] * ys[j]) := Lib.hid (by rw [hsucc.out, getD_of_lt 0 hxj, getD_of_lt 0 hyj])
      clear ha hb
      go_wp2
      go_roundw
      case rel => exact ⟨j + 1, by omega, by go_num, by rw [HV.out], trivial⟩
      case measure => simp [intOf]; omega
    · go_wp2_with fail
      refine (num_any p s _ (by omega) hp2 (by omega) (by omega)).mono ?_
      rintro e w' ⟨rfl, rfl⟩
      go_wp2
      go_ret
      exact ⟨ret_int (hdot.out (by omega)).symm, rfl⟩
end Go.Proofs.YtdbibmilicjllaaGreat
namespace Go.Proofs.YtdbibmilicjllaaGreat
open Go.RowKit
/-- The outer product of vectors. -/
def wedgesL (P : Int) (sq : List Int) (n : Nat) (L : List (List Int)) : List Int := L.foldl (fun o v => wedgeL P sq o (vecTo n v n)) (bladeL n 0)
theorem wedgesL_snoc (P : Int) (sq : List Int) (n : Nat) (L : List (List Int)) (v : List Int) : wedgesL P sq n (L ++ [v]) = wedgeL P sq (wedgesL P sq n L) (vecTo n v n) := by unfold wedgesL; rw [List.foldl_append]; rfl
theorem wedgesL_len (P : Int) (sq : List Int) (n : Nat) : ∀ (k : Nat) (L : List (List Int)), L.length = k → (wedgesL P sq n L).length = pw n := by
  intro k
  induction k with
  | zero => intro L h; rw [List.eq_nil_of_length_eq_zero h]; exact bladeL_len n 0
  | succ k ih =>
    intro L h
    have hne : L ≠ [] := fun e => by rw [e] at h; simp at h
    rw [← List.dropLast_concat_getLast hne, wedgesL_snoc, wedgeL_len]
    exact ih _ (by rw [List.length_dropLast, h]; rfl)
/-- A vector with all numbers multiplied by the squares. -/
def weiL (P : Int) (sq v : List Int) : List Int := tab v.length fun i => v.getD i 0 * sq.getD i 0 % P
theorem weiL_len (P : Int) (sq v : List Int) : (weiL P sq v).length = v.length := tab_len _ _
theorem weiL_nums {P : Int} (hp : 0 < P) (sq v : List Int) : NumsL P (weiL P sq v) := NumsL.tab fun i _ => ⟨Int.emod_nonneg _ (by omega), Int.emod_lt_of_pos _ hp⟩
/-- The product of two vectors. -/
def pairL (P : Int) (sq v u : List Int) : Int := dotL P (weiL P sq v) u
theorem pairL_sum {P : Int} {sq v u : List Int} {n : Nat} (hv : v.length = n) : pairL P sq v u = (sumTo n fun i => v.getD i 0 * u.getD i 0 % P * sq.getD i 0) % P := by
  unfold pairL dotL
  rw [weiL_len, hv]
  refine sumTo_mod P fun i hi => ?_
  unfold weiL
  rw [tab_getD (by omega), Int.mul_emod, Int.emod_emod_of_dvd _ (Int.dvd_refl P), ← Int.mul_emod, Int.mul_emod (v.getD i 0 * u.getD i 0 % P), Int.emod_emod_of_dvd _ (Int.dvd_refl P), ← Int.mul_emod, Int.mul_assoc, Int.mul_comm (sq.getD i 0), ← Int.mul_assoc]
set_option maxHeartbeats 3200000 in
set_option maxRecDepth 8000 in
theorem weighted_any (P : Int) (A : Option Addr) (n c : Nat) (sq : List Int) (X : Option Addr) (cx : Nat) (v : List Int) (w : World) (hp : 2 ≤ P) (hp2 : P ≤ 13) (hn : n ≤ 6) (ha : Rd w A n (ints sq)) (hs : NumsL P sq) (hx : Rd w X n (ints v)) (hv : NumsL P v) :
    Calls Tryz.prog 431 #[.agg #[.int .i64 P, .slice A n c], .slice X n cx] w fun e w' => ∃ A' c', e = .returned (.slice A' n c') ∧ MkI w w' A' n c' (weiL P sq v) := by
  have HL : Hid (weiL P sq v = tab n fun i => v.getD i 0 * sq.getD i 0 % P) := Lib.hid (by unfold weiL; rw [hx.lenI])
  have hB0 : Below w.heap.size w (w.alloc (.cells #[.int .i64 P, .slice A n c] 26)) := (Below.refl _ _).alloc (Nat.le_refl _) _
  have k0 : Blk (w.alloc (.cells #[.int .i64 P, .slice A n c] 26)) w.heap.size 26 #[.int .i64 P, .slice A n c] := Blk.new _ _ _
  have k1 := k0.alloc (.cells #[] 2)
  have hM0 := Mk.lit (E := 2) hB0 #[] (by simp)
  have hM1 : MkI w ((w.alloc (.cells #[.int .i64 P, .slice A n c] 26)).alloc (.cells #[] 2)) (some ⟨w.heap.size + 1, 0, none⟩) 0 0 (tab 0 fun i => v.getD i 0 * sq.getD i 0 % P) := by
    simpa [MkI, ints, tab] using hM0
  clear k0 hB0 hM0
  go_enter Tryz.func431, Tryz.ntmps431
  go_wp2
  go_loopw [5, 6, 7, 11] (fun out _ _ i wr => ∃ (j : Nat) (A' : Option Addr) (c' : Nat), j ≤ n ∧ i = .int .i64 j ∧ out = .slice A' j c' ∧ MkI w wr A' j c' (tab j fun i => v.getD i 0 * sq.getD i 0 % P) ∧ Blk wr w.heap.size 26 #[.int .i64 P, .slice A n c]) (fun _ _ _ i _ => n - (intOf i).toNat)
  case atStart => exact ⟨0, _, _, by omega, rfl, rfl, hM1, k1⟩
  case round =>
    obtain ⟨j, A', c', hj, rfl, rfl, hM, k2⟩ := hrel
    clear hM1 k1
    obtain ⟨q0, q1⟩ := k2.two
    by_cases hlt : j < n
    · obtain ⟨g, o, rfl, hxj, hcx⟩ := (hx.below hM.b).int hlt
      obtain ⟨g2, o2, rfl, hyj, hcy⟩ := (ha.below hM.b).int hlt
      obtain ⟨x1, x2⟩ := hv _ (List.getElem_mem hxj)
      obtain ⟨y1, y2⟩ := hs _ (List.getElem_mem hyj)
      have HV : Hid ((tab (j + 1) fun i => v.getD i 0 * sq.getD i 0 % P) = (tab j fun i => v.getD i 0 * sq.getD i 0 % P) ++ [v[j] * sq[j] % P]) := Lib.hid (by rw [tab_succ, getD_of_lt 0 hxj, getD_of_lt 0 hyj])
      obtain ⟨xa, hxe⟩ : ∃ xa, xa = v[j] := ⟨_, rfl⟩
      obtain ⟨ya, hye⟩ : ∃ ya, ya = sq[j] := ⟨_, rfl⟩
      rw [← hxe] at hcx x1 x2 HV
      rw [← hye] at hcy y1 y2 HV
      obtain ⟨m1, m2⟩ := mul_small x1 (show xa ≤ 13 by omega) y1 (show ya ≤ 13 by omega)
      have W1 := i64_fit (xa * ya) (by omega) (by omega)
      have i1 : (0 : Int) ≤ (j : Int) := by omega
      have i2 : (j : Int) < (n : Int) := by omega
      have HM := Lib.hid hM
      clear hxe hye hxj hyj hM
      go_wp2
      refine wp_obs 12 [[], [], [1], [], [], [4], [], [4, 5, 6], [4, 5, 6, 7], [3, 4, 5, 6, 7, 8], [1, 2, 3, 4, 5, 6, 7, 8, 9], [1, 2, 3, 4, 5, 6, 7, 8, 9, 10], [0, 1, 2, 3, 4, 5, 6, 7, 8, 9, 10, 11], [0, 1, 2, 3, 4, 5, 6, 7, 8, 9, 10, 11, 12]] [VIs (.slice A' j c'), VIs (.agg #[.int .i64 P, .slice (some ⟨g2, o2, none⟩) n c]), VIs (.int .i64 (P)), VIs (.int .i64 (xa)), VIs (.pointer (some ⟨w.heap.size, 1, none⟩)), VIs (.slice (some ⟨g2, o2, none⟩) n c), VIs (.int .i64 (j)), VIs (.pointer (some ⟨g2, o2 + j, none⟩)), VIs (.int .i64 (ya)), VIs (.int .i64 (xa * ya)), VIs (.int .i64 (xa * ya % P)), VBs 2 #[.int .i64 (xa * ya % P)]] (fun w' => w'.cell? ⟨g2, o2 + j, none⟩ = some (.int .i64 ya) ∧ Blk w' w.heap.size 26 #[.int .i64 P, .slice (some ⟨g2, o2, none⟩) n c] ∧ Below wr.heap.size wr w') (by kernel_rfl) (by kernel_rfl) (fun _ _ h hb => ⟨(hb.cell (World.block_lt_of_cell? _ _ h.1)).trans h.1, h.2.1.below hb h.2.1.lt, h.2.2.trans (hb.mono h.2.2.size)⟩) (⟨hcy, k2.drew, (Below.refl _ _).drew⟩) (fun x => ?_)
      refine obs_step (Eq.trans (by simp only [zA, zC]; exact rfl) rfl) rfl (fun w' hS hV K hK => ?_) ?_
      · have q2 := hS.1; obtain ⟨q0, q1⟩ := hS.2.1.two
        go_simp
        exact hK.out _ _ _ rfl rfl rfl (Below.refl _ _)
      simp only [zD, zE, zF]
      refine obs_step (Eq.trans (by simp only [zA, zB, zC]; exact rfl) rfl) rfl (fun w' hS hV K hK => ?_) ?_
      · have q2 := hS.1; obtain ⟨q0, q1⟩ := hS.2.1.two
        go_simp
        exact hK.out _ _ _ rfl rfl rfl (Below.refl _ _)
      simp only [zD, zE, zF]
      refine obs_step (Eq.trans (by simp only [zA, zB, zC]; exact rfl) rfl) rfl (fun w' hS hV K hK => ?_) ?_
      · have e1 : x 1 = (.agg #[.int .i64 P, .slice (some ⟨g2, o2, none⟩) n c]) := hV 1 (by decide)
        have q2 := hS.1; obtain ⟨q0, q1⟩ := hS.2.1.two
        go_simp
        refine (field_any _ _ _ _ _).mono ?_
        rintro e v1 ⟨rfl, hb⟩
        exact hK.out _ _ _ rfl rfl rfl hb
      simp only [zD, zE, zF]
      refine obs_step (Eq.trans (by simp only [zA, zB, zC]; exact rfl) rfl) rfl (fun w' hS hV K hK => ?_) ?_
      · have q2 := hS.1; obtain ⟨q0, q1⟩ := hS.2.1.two
        go_simp
        exact hK.out _ _ _ rfl rfl rfl (Below.refl _ _)
      simp only [zD, zE, zF]
      refine obs_step (Eq.trans (by simp only [zA, zB, zC]; exact rfl) rfl) rfl (fun w' hS hV K hK => ?_) ?_
      · have q2 := hS.1; obtain ⟨q0, q1⟩ := hS.2.1.two
        go_simp
        exact hK.out _ _ _ rfl rfl rfl (Below.refl _ _)
      simp only [zD, zE, zF]
      refine obs_step (Eq.trans (by simp only [zA, zB, zC]; exact rfl) rfl) rfl (fun w' hS hV K hK => ?_) ?_
      · have e4 : x 4 = (.pointer (some ⟨w.heap.size, 1, none⟩)) := hV 4 (by decide)
        have q2 := hS.1; obtain ⟨q0, q1⟩ := hS.2.1.two
        go_simp
        exact hK.out _ _ _ rfl rfl rfl (Below.refl _ _)
      simp only [zD, zE, zF]
      refine obs_step (Eq.trans (by simp only [zA, zB, zC]; exact rfl) rfl) rfl (fun w' hS hV K hK => ?_) ?_
      · have q2 := hS.1; obtain ⟨q0, q1⟩ := hS.2.1.two
        go_simp
        exact hK.out _ _ _ rfl rfl rfl (Below.refl _ _)
      simp only [zD, zE, zF]
      refine obs_step (Eq.trans (by simp only [zA, zB, zC]; exact rfl) rfl) rfl (fun w' hS hV K hK => ?_) ?_
      · have e5 : x 5 = (.slice (some ⟨g2, o2, none⟩) n c) := hV 5 (by decide)
        have e6 : x 6 = (.int .i64 (j)) := hV 6 (by decide)
        have q2 := hS.1; obtain ⟨q0, q1⟩ := hS.2.1.two
        go_simp
        exact hK.out _ _ _ rfl rfl rfl (Below.refl _ _)
      simp only [zD, zE, zF]
      refine obs_step (Eq.trans (by simp only [zA, zB, zC]; exact rfl) rfl) rfl (fun w' hS hV K hK => ?_) ?_
      · have e7 : x 7 = (.pointer (some ⟨g2, o2 + j, none⟩)) := hV 7 (by decide)
        have q2 := hS.1; obtain ⟨q0, q1⟩ := hS.2.1.two
        go_simp
        exact hK.out _ _ _ rfl rfl rfl (Below.refl _ _)
      simp only [zD, zE, zF]
      refine obs_step (Eq.trans (by simp only [zA, zB, zC]; exact rfl) rfl) rfl (fun w' hS hV K hK => ?_) ?_
      · have e3 : x 3 = (.int .i64 (xa)) := hV 3 (by decide)
        have e8 : x 8 = (.int .i64 (ya)) := hV 8 (by decide)
        have q2 := hS.1; obtain ⟨q0, q1⟩ := hS.2.1.two
        go_simp
        exact hK.out _ _ _ rfl rfl rfl (Below.refl _ _)
      simp only [zD, zE, zF]
      refine obs_step (Eq.trans (by simp only [zA, zB, zC]; exact rfl) rfl) rfl (fun w' hS hV K hK => ?_) ?_
      · have e2 : x 2 = (.int .i64 (P)) := hV 2 (by decide)
        have e9 : x 9 = (.int .i64 (xa * ya)) := hV 9 (by decide)
        have q2 := hS.1; obtain ⟨q0, q1⟩ := hS.2.1.two
        go_simp
        refine (num_any P (xa * ya) _ (by omega) hp2 (by omega) (by omega)).mono ?_
        rintro e v1 ⟨rfl, rfl⟩
        exact hK.out _ _ _ rfl rfl rfl (Below.refl _ _)
      simp only [zD, zE, zF]
      refine obs_step (Eq.trans (by simp only [zA, zB, zC]; exact rfl) rfl) rfl (fun w' hS hV K hK => ?_) ?_
      · have e10 : x 10 = (.int .i64 (xa * ya % P)) := hV 10 (by decide)
        have q2 := hS.1; obtain ⟨q0, q1⟩ := hS.2.1.two
        go_simp
        exact hK.out _ _ _ rfl rfl ⟨_, rfl, Blk.new _ _ _⟩ ((Below.refl _ _).alloc (Nat.le_refl _) _)
      simp only [zD, zE, zF]
      refine fun w' hS hV => ?_
      have e0 : x 0 = (.slice A' j c') := hV 0 (by decide)
      have e1 : x 1 = (.agg #[.int .i64 P, .slice (some ⟨g2, o2, none⟩) n c]) := hV 1 (by decide)
      have e2 : x 2 = (.int .i64 (P)) := hV 2 (by decide)
      have e3 : x 3 = (.int .i64 (xa)) := hV 3 (by decide)
      have e4 : x 4 = (.pointer (some ⟨w.heap.size, 1, none⟩)) := hV 4 (by decide)
      have e5 : x 5 = (.slice (some ⟨g2, o2, none⟩) n c) := hV 5 (by decide)
      have e6 : x 6 = (.int .i64 (j)) := hV 6 (by decide)
      have e7 : x 7 = (.pointer (some ⟨g2, o2 + j, none⟩)) := hV 7 (by decide)
      have e8 : x 8 = (.int .i64 (ya)) := hV 8 (by decide)
      have e9 : x 9 = (.int .i64 (xa * ya)) := hV 9 (by decide)
      have e10 : x 10 = (.int .i64 (xa * ya % P)) := hV 10 (by decide)
      obtain ⟨b11, e11, h11⟩ := hV 11 (by decide)
      simp only [e0, e1, e2, e3, e4, e5, e6, e7, e8, e9, e10, e11]
      clear e0 e1 e2 e3 e4 e5 e6 e7 e8 e9 e10 e11
      have s1 := HM.out.below hS.2.2
      have k3 := hS.2.1
      refine any_plain (j := 12) (by kernel_rfl) (Eq.trans (by simp only [zA, zB, zC]; exact rfl) rfl) rfl (fun K hK => ?_)
      refine wp_app1 w w' 24 2 _ _ Tryz.underlying24 info_i rfl (by omega) _ _ rfl A' j c' _ _ s1 (by omega) rfl _ h11 (by rfl) (by rfl) ?_
      intro A2 c2 w2 hM2 hgr
      refine hK.out _ _ ?_
      simp only [Act.put, zD, zE, zF]
      refine any_one (j := 13) (by kernel_rfl) (Eq.trans (by simp only [zA, zB, zC]; exact rfl) rfl) (fun K hK => ?_)
      go_simp
      refine hK.out _ _ (wpAny_done (by kernel_rfl) ?_ _)
      have k4 := k3.grown hgr (s1.2.ne_blk k3 (by decide))
      clear W1 s1 k3 hgr hS
      go_wp2
      go_roundw
      case rel => exact ⟨j + 1, A2, c2, by omega, by go_num, rfl, by rw [HV.out]; simpa [MkI, ints] using hM2, k4⟩
      case measure => simp [intOf]; omega
    · obtain rfl : j = n := by omega
      go_wp2
      go_ret
      exact ⟨_, _, rfl, by rw [HL.out]; exact hM⟩
set_option maxHeartbeats 1600000 in
set_option maxRecDepth 8000 in
theorem pair_any (P : Int) (A : Option Addr) (n c : Nat) (sq : List Int) (X : Option Addr) (cx : Nat) (v : List Int) (Y : Option Addr) (cy : Nat) (u : List Int) (w : World) (hp : 2 ≤ P) (hp2 : P ≤ 13) (hn : n ≤ 6) (ha : Rd w A n (ints sq)) (hs : NumsL P sq) (hx : Rd w X n (ints v)) (hv : NumsL P v) (hy : Rd w Y n (ints u)) (hu : NumsL P u) :
    Calls Tryz.prog 329 #[.agg #[.int .i64 P, .slice A n c], .slice X n cx, .slice Y n cy] w fun e w' => e = .returned (.int .i64 (pairL P sq v u)) ∧ Below w.heap.size w w' := by
  have HPL : Hid (pairL P sq v u = dotL P (weiL P sq v) u) := Lib.hid rfl
  have hB0 : Below w.heap.size w (w.alloc (.cells #[.int .i64 P, .slice A n c] 26)) := (Below.refl _ _).alloc (Nat.le_refl _) _
  have k0 : Blk (w.alloc (.cells #[.int .i64 P, .slice A n c] 26)) w.heap.size 26 #[.int .i64 P, .slice A n c] := Blk.new _ _ _
  go_enter Tryz.func329, Tryz.ntmps329
  go_wp2
  refine wp_obs 8 [[], [0], [], [], [2, 3], [], [0, 1, 2, 3, 4, 5], [0, 1, 2, 3, 4, 5, 6]] [VIs (.agg #[.int .i64 P, .slice A n c]), VIs (.int .i64 (P)), VIs (.agg #[.int .i64 P, .slice A n c]), VIs (.slice X n cx), VSl w n (weiL P sq v), VIs (.slice Y n cy), VIs (.int .i64 (pairL P sq v u)), VIs (.int .i64 (pairL P sq v u))] (fun w' => Blk w' w.heap.size 26 #[.int .i64 P, .slice A n c] ∧ Below w.heap.size w w') (by kernel_rfl) (by kernel_rfl) (fun _ _ h hb => ⟨h.1.below hb h.1.lt, h.2.trans (hb.mono h.2.size)⟩) (⟨k0.drew, hB0.drew⟩) (fun x => ?_)
  refine obs_step (Eq.trans (by simp only [zA, zC]; exact rfl) rfl) rfl (fun w' hS hV K hK => ?_) ?_
  · obtain ⟨q0, q1⟩ := hS.1.two
    go_simp
    exact hK.out _ _ _ rfl rfl rfl (Below.refl _ _)
  simp only [zD, zE, zF]
  refine obs_step (Eq.trans (by simp only [zA, zB, zC]; exact rfl) rfl) rfl (fun w' hS hV K hK => ?_) ?_
  · have e0 : x 0 = (.agg #[.int .i64 P, .slice A n c]) := hV 0 (by decide)
    obtain ⟨q0, q1⟩ := hS.1.two
    go_simp
    refine (field_any _ _ _ _ _).mono ?_
    rintro e v1 ⟨rfl, hb⟩
    exact hK.out _ _ _ rfl rfl rfl hb
  simp only [zD, zE, zF]
  refine obs_step (Eq.trans (by simp only [zA, zB, zC]; exact rfl) rfl) rfl (fun w' hS hV K hK => ?_) ?_
  · obtain ⟨q0, q1⟩ := hS.1.two
    go_simp
    exact hK.out _ _ _ rfl rfl rfl (Below.refl _ _)
  simp only [zD, zE, zF]
  refine obs_step (Eq.trans (by simp only [zA, zB, zC]; exact rfl) rfl) rfl (fun w' hS hV K hK => ?_) ?_
  · obtain ⟨q0, q1⟩ := hS.1.two
    go_simp
    exact hK.out _ _ _ rfl rfl rfl (Below.refl _ _)
  simp only [zD, zE, zF]
  refine obs_step (Eq.trans (by simp only [zA, zB, zC]; exact rfl) rfl) rfl (fun w' hS hV K hK => ?_) ?_
  · have e2 : x 2 = (.agg #[.int .i64 P, .slice A n c]) := hV 2 (by decide)
    have e3 : x 3 = (.slice X n cx) := hV 3 (by decide)
    obtain ⟨q0, q1⟩ := hS.1.two
    go_simp
    refine (weighted_any P A n c sq X cx v _ hp hp2 hn (ha.below hS.2) hs (hx.below hS.2) hv).mono ?_
    rintro e v1 ⟨A2, c2, rfl, hM⟩
    exact hK.out _ _ _ rfl rfl ⟨_, _, rfl, hM.after hS.2⟩ hM.b
  simp only [zD, zE, zF]
  refine obs_step (Eq.trans (by simp only [zA, zB, zC]; exact rfl) rfl) rfl (fun w' hS hV K hK => ?_) ?_
  · obtain ⟨q0, q1⟩ := hS.1.two
    go_simp
    exact hK.out _ _ _ rfl rfl rfl (Below.refl _ _)
  simp only [zD, zE, zF]
  refine obs_step (Eq.trans (by simp only [zA, zB, zC]; exact rfl) rfl) rfl (fun w' hS hV K hK => ?_) ?_
  · have e1 : x 1 = (.int .i64 (P)) := hV 1 (by decide)
    obtain ⟨A4, c4, e4, h4⟩ := hV 4 (by decide)
    have e5 : x 5 = (.slice Y n cy) := hV 5 (by decide)
    obtain ⟨q0, q1⟩ := hS.1.two
    go_simp
    refine (dot_any P _ n _ _ n _ (weiL P sq v) u _ hp hp2 (by omega) (Nat.le_refl _) h4.rd (weiL_nums (by omega) _ _) (hy.below hS.2) hu).mono ?_
    rw [← HPL.out]
    rintro e v1 ⟨rfl, rfl⟩
    exact hK.out _ _ _ rfl rfl rfl (Below.refl _ _)
  simp only [zD, zE, zF]
  refine obs_step (Eq.trans (by simp only [zA, zB, zC]; exact rfl) rfl) rfl (fun w' hS hV K hK => ?_) ?_
  · obtain ⟨A4, c4, e4, h4⟩ := hV 4 (by decide)
    have e6 : x 6 = (.int .i64 (pairL P sq v u)) := hV 6 (by decide)
    obtain ⟨q0, q1⟩ := hS.1.two
    go_simp
    exact hK.out _ _ _ rfl rfl rfl (Below.refl _ _)
  simp only [zD, zE, zF]
  refine fun w' hS hV => ?_
  have e0 : x 0 = (.agg #[.int .i64 P, .slice A n c]) := hV 0 (by decide)
  have e1 : x 1 = (.int .i64 (P)) := hV 1 (by decide)
  have e2 : x 2 = (.agg #[.int .i64 P, .slice A n c]) := hV 2 (by decide)
  have e3 : x 3 = (.slice X n cx) := hV 3 (by decide)
  obtain ⟨A4, c4, e4, h4⟩ := hV 4 (by decide)
  have e5 : x 5 = (.slice Y n cy) := hV 5 (by decide)
  have e6 : x 6 = (.int .i64 (pairL P sq v u)) := hV 6 (by decide)
  have e7 : x 7 = (.int .i64 (pairL P sq v u)) := hV 7 (by decide)
  simp only [e0, e1, e2, e3, e4, e5, e6, e7]
  clear e0 e1 e2 e3 e4 e5 e6 e7
  refine wpAny_done (by kernel_rfl) ?_ _
  go_wp2
  go_ret
  exact ⟨rfl, hS.2⟩
set_option maxHeartbeats 3200000 in
set_option maxRecDepth 8000 in
theorem l03Pair_any (P : Int) (A : Option Addr) (n c : Nat) (sq : List Int) (X : Option Addr) (cx : Nat) (v : List Int) (Y : Option Addr) (cy : Nat) (u : List Int) (w : World) (hp : 2 ≤ P) (hp2 : P ≤ 13) (hn : n ≤ 6) (ha : Rd w A n (ints sq)) (hs : NumsL P sq) (hx : Rd w X n (ints v)) (hv : NumsL P v) (hy : Rd w Y n (ints u)) (hu : NumsL P u) :
    Calls Tryz.prog 231 #[.agg #[.int .i64 P, .slice A n c], .slice X n cx, .slice Y n cy] w fun e w' => e = .returned (.int .i64 (pairL P sq v u)) ∧ Below w.heap.size w w' := by
  have HPL : Hid (pairL P sq v u = (sumTo n fun i => v.getD i 0 * u.getD i 0 % P * sq.getD i 0) % P) := Lib.hid (pairL_sum hx.lenI)
  have hB0 : Below w.heap.size w (w.alloc (.cells #[.int .i64 P, .slice A n c] 26)) := (Below.refl _ _).alloc (Nat.le_refl _) _
  have k0 : Blk (w.alloc (.cells #[.int .i64 P, .slice A n c] 26)) w.heap.size 26 #[.int .i64 P, .slice A n c] := Blk.new _ _ _
  go_enter Tryz.func231, Tryz.ntmps231
  go_wp2
  go_loopw [7, 8] (fun s i wr => ∃ j : Nat, j ≤ n ∧ i = .int .i64 j ∧ s = .int .i64 ((sumTo j fun i => v.getD i 0 * u.getD i 0 % P * sq.getD i 0) % P) ∧ Below w.heap.size w wr ∧ Blk wr w.heap.size 26 #[.int .i64 P, .slice A n c]) (fun _ i _ => n - (intOf i).toNat)
  case atStart => exact ⟨0, by omega, rfl, by simp [sumTo], hB0, k0⟩
  case round =>
    obtain ⟨j, hj, rfl, rfl, hB1, k1⟩ := hrel
    clear hB0 k0
    have hsb := emod_small (sumTo j fun i => v.getD i 0 * u.getD i 0 % P * sq.getD i 0) P (by omega)
    have hst := sumTo_step P j fun i => v.getD i 0 * u.getD i 0 % P * sq.getD i 0
    have HEN : Hid (j = n → pairL P sq v u = (sumTo j fun i => v.getD i 0 * u.getD i 0 % P * sq.getD i 0) % P) := Lib.hid (fun h => by rw [HPL.out, h])
    obtain ⟨s, hse⟩ : ∃ s, s = (sumTo j fun i => v.getD i 0 * u.getD i 0 % P * sq.getD i 0) % P := ⟨_, rfl⟩
    rw [← hse] at hsb hst HEN ⊢
    clear hse
    by_cases hlt : j < n
    · obtain ⟨g, o, rfl, hxj, hcx⟩ := (hx.below hB1).int hlt
      obtain ⟨g2, o2, rfl, hyj, hcy⟩ := (hy.below hB1).int hlt
      obtain ⟨g3, o3, rfl, hzj, hcz⟩ := (ha.below hB1).int hlt
      obtain ⟨x1, x2⟩ := hv _ (List.getElem_mem hxj)
      obtain ⟨y1, y2⟩ := hu _ (List.getElem_mem hyj)
      obtain ⟨z1, z2⟩ := hs _ (List.getElem_mem hzj)
      have HST : Hid ((sumTo (j + 1) fun i => v.getD i 0 * u.getD i 0 % P * sq.getD i 0) % P = (s + v[j] * u[j] % P * sq[j]) % P) := Lib.hid (by rw [← hst, getD_of_lt 0 hxj, getD_of_lt 0 hyj, getD_of_lt 0 hzj])
      clear hst
      obtain ⟨xa, hxe⟩ : ∃ xa, xa = v[j] := ⟨_, rfl⟩
      obtain ⟨ya, hye⟩ : ∃ ya, ya = u[j] := ⟨_, rfl⟩
      obtain ⟨za, hze⟩ : ∃ za, za = sq[j] := ⟨_, rfl⟩
      rw [← hxe] at hcx x1 x2 HST
      rw [← hye] at hcy y1 y2 HST
      rw [← hze] at hcz z1 z2 HST
      obtain ⟨m1, m2⟩ := mul_small x1 (show xa ≤ 13 by omega) y1 (show ya ≤ 13 by omega)
      obtain ⟨r1, r2⟩ := emod_small (xa * ya) P (by omega)
      obtain ⟨m3, m4⟩ := mul_small r1 (show xa * ya % P ≤ 13 by omega) z1 (show za ≤ 13 by omega)
      have W1 := i64_fit (xa * ya) (by omega) (by omega)
      have W2 := i64_fit (xa * ya % P * za) (by omega) (by omega)
      have W3 := i64_fit (s + xa * ya % P * za) (by omega) (by omega)
      have T1 := Int.tmod_eq_emod_of_nonneg (b := P) m1
      have T2 := Int.tmod_eq_emod_of_nonneg (a := s + xa * ya % P * za) (b := P) (by omega)
      have hP0 : (P == 0) = false := by simp; omega
      have hP1 : (P == -1) = false := by simp; omega
      have hP2 : ¬ P = 0 := by omega
      have i1 : (0 : Int) ≤ (j : Int) := by omega
      have i2 : (j : Int) < (n : Int) := by omega
      obtain ⟨q0, q1⟩ := k1.two
      clear hxe hye hze hxj hyj hzj
      go_wp2
      refine wp_obs 23 [[], [], [], [1, 2], [1, 2, 3], [], [], [5, 6], [5, 6, 7], [1, 2, 3, 4, 5, 6, 7, 8], [], [10], [1, 2, 3, 4, 5, 6, 7, 8, 9, 10, 11], [], [13], [], [13, 14, 15], [13, 14, 15, 16], [1, 2, 3, 4, 5, 6, 7, 8, 9, 10, 11, 12, 13, 14, 15, 16, 17], [0, 1, 2, 3, 4, 5, 6, 7, 8, 9, 10, 11, 12, 13, 14, 15, 16, 17, 18], [], [20], [0, 1, 2, 3, 4, 5, 6, 7, 8, 9, 10, 11, 12, 13, 14, 15, 16, 17, 18, 19, 20, 21], [0, 1, 2, 3, 4, 5, 6, 7, 8, 9, 10, 11, 12, 13, 14, 15, 16, 17, 18, 19, 20, 21, 22]] [VIs (.int .i64 (s)), VIs (.slice (some ⟨g, o, none⟩) n cx), VIs (.int .i64 (j)), VIs (.pointer (some ⟨g, o + j, none⟩)), VIs (.int .i64 (xa)), VIs (.slice (some ⟨g2, o2, none⟩) n cy), VIs (.int .i64 (j)), VIs (.pointer (some ⟨g2, o2 + j, none⟩)), VIs (.int .i64 (ya)), VIs (.int .i64 (xa * ya)), VIs (.pointer (some ⟨w.heap.size, 0, none⟩)), VIs (.int .i64 (P)), VIs (.int .i64 (xa * ya % P)), VIs (.pointer (some ⟨w.heap.size, 1, none⟩)), VIs (.slice (some ⟨g3, o3, none⟩) n c), VIs (.int .i64 (j)), VIs (.pointer (some ⟨g3, o3 + j, none⟩)), VIs (.int .i64 (za)), VIs (.int .i64 (xa * ya % P * za)), VIs (.int .i64 (s + xa * ya % P * za)), VIs (.pointer (some ⟨w.heap.size, 0, none⟩)), VIs (.int .i64 (P)), VIs (.int .i64 ((s + xa * ya % P * za) % P))] (fun w' => w'.cell? ⟨g, o + j, none⟩ = some (.int .i64 xa) ∧ w'.cell? ⟨g2, o2 + j, none⟩ = some (.int .i64 ya) ∧ w'.cell? ⟨g3, o3 + j, none⟩ = some (.int .i64 za) ∧ Blk w' w.heap.size 26 #[.int .i64 P, .slice (some ⟨g3, o3, none⟩) n c] ∧ Below wr.heap.size wr w') (by kernel_rfl) (by kernel_rfl) (fun _ _ h hb => ⟨(hb.cell (World.block_lt_of_cell? _ _ h.1)).trans h.1, (hb.cell (World.block_lt_of_cell? _ _ h.2.1)).trans h.2.1, (hb.cell (World.block_lt_of_cell? _ _ h.2.2.1)).trans h.2.2.1, h.2.2.2.1.below hb h.2.2.2.1.lt, h.2.2.2.2.trans (hb.mono h.2.2.2.2.size)⟩) (⟨hcx, hcy, hcz, k1.drew, (Below.refl _ _).drew⟩) (fun x => ?_)
      refine obs_step (Eq.trans (by simp only [zA, zC]; exact rfl) rfl) rfl (fun w' hS hV K hK => ?_) ?_
      · have q2 := hS.1; have q3 := hS.2.1; have q4 := hS.2.2.1; obtain ⟨q0, q1⟩ := hS.2.2.2.1.two
        go_simp
        exact hK.out _ _ _ rfl rfl rfl (Below.refl _ _)
      simp only [zD, zE, zF]
      refine obs_step (Eq.trans (by simp only [zA, zB, zC]; exact rfl) rfl) rfl (fun w' hS hV K hK => ?_) ?_
      · have q2 := hS.1; have q3 := hS.2.1; have q4 := hS.2.2.1; obtain ⟨q0, q1⟩ := hS.2.2.2.1.two
        go_simp
        exact hK.out _ _ _ rfl rfl rfl (Below.refl _ _)
      simp only [zD, zE, zF]
      refine obs_step (Eq.trans (by simp only [zA, zB, zC]; exact rfl) rfl) rfl (fun w' hS hV K hK => ?_) ?_
      · have q2 := hS.1; have q3 := hS.2.1; have q4 := hS.2.2.1; obtain ⟨q0, q1⟩ := hS.2.2.2.1.two
        go_simp
        exact hK.out _ _ _ rfl rfl rfl (Below.refl _ _)
      simp only [zD, zE, zF]
      refine obs_step (Eq.trans (by simp only [zA, zB, zC]; exact rfl) rfl) rfl (fun w' hS hV K hK => ?_) ?_
      · have e1 : x 1 = (.slice (some ⟨g, o, none⟩) n cx) := hV 1 (by decide)
        have e2 : x 2 = (.int .i64 (j)) := hV 2 (by decide)
        have q2 := hS.1; have q3 := hS.2.1; have q4 := hS.2.2.1; obtain ⟨q0, q1⟩ := hS.2.2.2.1.two
        go_simp
        exact hK.out _ _ _ rfl rfl rfl (Below.refl _ _)
      simp only [zD, zE, zF]
      refine obs_step (Eq.trans (by simp only [zA, zB, zC]; exact rfl) rfl) rfl (fun w' hS hV K hK => ?_) ?_
      · have e3 : x 3 = (.pointer (some ⟨g, o + j, none⟩)) := hV 3 (by decide)
        have q2 := hS.1; have q3 := hS.2.1; have q4 := hS.2.2.1; obtain ⟨q0, q1⟩ := hS.2.2.2.1.two
        go_simp
        exact hK.out _ _ _ rfl rfl rfl (Below.refl _ _)
      simp only [zD, zE, zF]
      refine obs_step (Eq.trans (by simp only [zA, zB, zC]; exact rfl) rfl) rfl (fun w' hS hV K hK => ?_) ?_
      · have q2 := hS.1; have q3 := hS.2.1; have q4 := hS.2.2.1; obtain ⟨q0, q1⟩ := hS.2.2.2.1.two
        go_simp
        exact hK.out _ _ _ rfl rfl rfl (Below.refl _ _)
      simp only [zD, zE, zF]
      refine obs_step (Eq.trans (by simp only [zA, zB, zC]; exact rfl) rfl) rfl (fun w' hS hV K hK => ?_) ?_
      · have q2 := hS.1; have q3 := hS.2.1; have q4 := hS.2.2.1; obtain ⟨q0, q1⟩ := hS.2.2.2.1.two
        go_simp
        exact hK.out _ _ _ rfl rfl rfl (Below.refl _ _)
      simp only [zD, zE, zF]
      refine obs_step (Eq.trans (by simp only [zA, zB, zC]; exact rfl) rfl) rfl (fun w' hS hV K hK => ?_) ?_
      · have e5 : x 5 = (.slice (some ⟨g2, o2, none⟩) n cy) := hV 5 (by decide)
        have e6 : x 6 = (.int .i64 (j)) := hV 6 (by decide)
        have q2 := hS.1; have q3 := hS.2.1; have q4 := hS.2.2.1; obtain ⟨q0, q1⟩ := hS.2.2.2.1.two
        go_simp
        exact hK.out _ _ _ rfl rfl rfl (Below.refl _ _)
      simp only [zD, zE, zF]
      refine obs_step (Eq.trans (by simp only [zA, zB, zC]; exact rfl) rfl) rfl (fun w' hS hV K hK => ?_) ?_
      · have e7 : x 7 = (.pointer (some ⟨g2, o2 + j, none⟩)) := hV 7 (by decide)
        have q2 := hS.1; have q3 := hS.2.1; have q4 := hS.2.2.1; obtain ⟨q0, q1⟩ := hS.2.2.2.1.two
        go_simp
        exact hK.out _ _ _ rfl rfl rfl (Below.refl _ _)
      simp only [zD, zE, zF]
      refine obs_step (Eq.trans (by simp only [zA, zB, zC]; exact rfl) rfl) rfl (fun w' hS hV K hK => ?_) ?_
      · have e4 : x 4 = (.int .i64 (xa)) := hV 4 (by decide)
        have e8 : x 8 = (.int .i64 (ya)) := hV 8 (by decide)
        have q2 := hS.1; have q3 := hS.2.1; have q4 := hS.2.2.1; obtain ⟨q0, q1⟩ := hS.2.2.2.1.two
        go_simp
        exact hK.out _ _ _ rfl rfl rfl (Below.refl _ _)
      simp only [zD, zE, zF]
      refine obs_step (Eq.trans (by simp only [zA, zB, zC]; exact rfl) rfl) rfl (fun w' hS hV K hK => ?_) ?_
      · have q2 := hS.1; have q3 := hS.2.1; have q4 := hS.2.2.1; obtain ⟨q0, q1⟩ := hS.2.2.2.1.two
        go_simp
        exact hK.out _ _ _ rfl rfl rfl (Below.refl _ _)
      simp only [zD, zE, zF]
      refine obs_step (Eq.trans (by simp only [zA, zB, zC]; exact rfl) rfl) rfl (fun w' hS hV K hK => ?_) ?_
      · have e10 : x 10 = (.pointer (some ⟨w.heap.size, 0, none⟩)) := hV 10 (by decide)
        have q2 := hS.1; have q3 := hS.2.1; have q4 := hS.2.2.1; obtain ⟨q0, q1⟩ := hS.2.2.2.1.two
        go_simp
        exact hK.out _ _ _ rfl rfl rfl (Below.refl _ _)
      simp only [zD, zE, zF]
      refine obs_step (Eq.trans (by simp only [zA, zB, zC]; exact rfl) rfl) rfl (fun w' hS hV K hK => ?_) ?_
      · have e9 : x 9 = (.int .i64 (xa * ya)) := hV 9 (by decide)
        have e11 : x 11 = (.int .i64 (P)) := hV 11 (by decide)
        have q2 := hS.1; have q3 := hS.2.1; have q4 := hS.2.2.1; obtain ⟨q0, q1⟩ := hS.2.2.2.1.two
        go_simp
        exact hK.out _ _ _ rfl rfl rfl (Below.refl _ _)
      simp only [zD, zE, zF]
      refine obs_step (Eq.trans (by simp only [zA, zB, zC]; exact rfl) rfl) rfl (fun w' hS hV K hK => ?_) ?_
      · have q2 := hS.1; have q3 := hS.2.1; have q4 := hS.2.2.1; obtain ⟨q0, q1⟩ := hS.2.2.2.1.two
        go_simp
        exact hK.out _ _ _ rfl rfl rfl (Below.refl _ _)
      simp only [zD, zE, zF]
      refine obs_step (Eq.trans (by simp only [zA, zB, zC]; exact rfl) rfl) rfl (fun w' hS hV K hK => ?_) ?_
      · have e13 : x 13 = (.pointer (some ⟨w.heap.size, 1, none⟩)) := hV 13 (by decide)
        have q2 := hS.1; have q3 := hS.2.1; have q4 := hS.2.2.1; obtain ⟨q0, q1⟩ := hS.2.2.2.1.two
        go_simp
        exact hK.out _ _ _ rfl rfl rfl (Below.refl _ _)
      simp only [zD, zE, zF]
      refine obs_step (Eq.trans (by simp only [zA, zB, zC]; exact rfl) rfl) rfl (fun w' hS hV K hK => ?_) ?_
      · have q2 := hS.1; have q3 := hS.2.1; have q4 := hS.2.2.1; obtain ⟨q0, q1⟩ := hS.2.2.2.1.two
        go_simp
        exact hK.out _ _ _ rfl rfl rfl (Below.refl _ _)
      simp only [zD, zE, zF]
      refine obs_step (Eq.trans (by simp only [zA, zB, zC]; exact rfl) rfl) rfl (fun w' hS hV K hK => ?_) ?_
      · have e14 : x 14 = (.slice (some ⟨g3, o3, none⟩) n c) := hV 14 (by decide)
        have e15 : x 15 = (.int .i64 (j)) := hV 15 (by decide)
        have q2 := hS.1; have q3 := hS.2.1; have q4 := hS.2.2.1; obtain ⟨q0, q1⟩ := hS.2.2.2.1.two
        go_simp
        exact hK.out _ _ _ rfl rfl rfl (Below.refl _ _)
      simp only [zD, zE, zF]
      refine obs_step (Eq.trans (by simp only [zA, zB, zC]; exact rfl) rfl) rfl (fun w' hS hV K hK => ?_) ?_
      · have e16 : x 16 = (.pointer (some ⟨g3, o3 + j, none⟩)) := hV 16 (by decide)
        have q2 := hS.1; have q3 := hS.2.1; have q4 := hS.2.2.1; obtain ⟨q0, q1⟩ := hS.2.2.2.1.two
        go_simp
        exact hK.out _ _ _ rfl rfl rfl (Below.refl _ _)
      simp only [zD, zE, zF]
      refine obs_step (Eq.trans (by simp only [zA, zB, zC]; exact rfl) rfl) rfl (fun w' hS hV K hK => ?_) ?_
      · have e12 : x 12 = (.int .i64 (xa * ya % P)) := hV 12 (by decide)
        have e17 : x 17 = (.int .i64 (za)) := hV 17 (by decide)
        have q2 := hS.1; have q3 := hS.2.1; have q4 := hS.2.2.1; obtain ⟨q0, q1⟩ := hS.2.2.2.1.two
        go_simp
        exact hK.out _ _ _ rfl rfl rfl (Below.refl _ _)
      simp only [zD, zE, zF]
      refine obs_step (Eq.trans (by simp only [zA, zB, zC]; exact rfl) rfl) rfl (fun w' hS hV K hK => ?_) ?_
      · have e0 : x 0 = (.int .i64 (s)) := hV 0 (by decide)
        have e18 : x 18 = (.int .i64 (xa * ya % P * za)) := hV 18 (by decide)
        have q2 := hS.1; have q3 := hS.2.1; have q4 := hS.2.2.1; obtain ⟨q0, q1⟩ := hS.2.2.2.1.two
        go_simp
        exact hK.out _ _ _ rfl rfl rfl (Below.refl _ _)
      simp only [zD, zE, zF]
      refine obs_step (Eq.trans (by simp only [zA, zB, zC]; exact rfl) rfl) rfl (fun w' hS hV K hK => ?_) ?_
      · have q2 := hS.1; have q3 := hS.2.1; have q4 := hS.2.2.1; obtain ⟨q0, q1⟩ := hS.2.2.2.1.two
        go_simp
        exact hK.out _ _ _ rfl rfl rfl (Below.refl _ _)
      simp only [zD, zE, zF]
      refine obs_step (Eq.trans (by simp only [zA, zB, zC]; exact rfl) rfl) rfl (fun w' hS hV K hK => ?_) ?_
      · have e20 : x 20 = (.pointer (some ⟨w.heap.size, 0, none⟩)) := hV 20 (by decide)
        have q2 := hS.1; have q3 := hS.2.1; have q4 := hS.2.2.1; obtain ⟨q0, q1⟩ := hS.2.2.2.1.two
        go_simp
        exact hK.out _ _ _ rfl rfl rfl (Below.refl _ _)
      simp only [zD, zE, zF]
      refine obs_step (Eq.trans (by simp only [zA, zB, zC]; exact rfl) rfl) rfl (fun w' hS hV K hK => ?_) ?_
      · have e19 : x 19 = (.int .i64 (s + xa * ya % P * za)) := hV 19 (by decide)
        have e21 : x 21 = (.int .i64 (P)) := hV 21 (by decide)
        have q2 := hS.1; have q3 := hS.2.1; have q4 := hS.2.2.1; obtain ⟨q0, q1⟩ := hS.2.2.2.1.two
        go_simp
        exact hK.out _ _ _ rfl rfl rfl (Below.refl _ _)
      simp only [zD, zE, zF]
      refine fun w' hS hV => ?_
      have e0 : x 0 = (.int .i64 (s)) := hV 0 (by decide)
      have e1 : x 1 = (.slice (some ⟨g, o, none⟩) n cx) := hV 1 (by decide)
      have e2 : x 2 = (.int .i64 (j)) := hV 2 (by decide)
      have e3 : x 3 = (.pointer (some ⟨g, o + j, none⟩)) := hV 3 (by decide)
      have e4 : x 4 = (.int .i64 (xa)) := hV 4 (by decide)
      have e5 : x 5 = (.slice (some ⟨g2, o2, none⟩) n cy) := hV 5 (by decide)
      have e6 : x 6 = (.int .i64 (j)) := hV 6 (by decide)
      have e7 : x 7 = (.pointer (some ⟨g2, o2 + j, none⟩)) := hV 7 (by decide)
      have e8 : x 8 = (.int .i64 (ya)) := hV 8 (by decide)
      have e9 : x 9 = (.int .i64 (xa * ya)) := hV 9 (by decide)
      have e10 : x 10 = (.pointer (some ⟨w.heap.size, 0, none⟩)) := hV 10 (by decide)
      have e11 : x 11 = (.int .i64 (P)) := hV 11 (by decide)
      have e12 : x 12 = (.int .i64 (xa * ya % P)) := hV 12 (by decide)
      have e13 : x 13 = (.pointer (some ⟨w.heap.size, 1, none⟩)) := hV 13 (by decide)
      have e14 : x 14 = (.slice (some ⟨g3, o3, none⟩) n c) := hV 14 (by decide)
      have e15 : x 15 = (.int .i64 (j)) := hV 15 (by decide)
      have e16 : x 16 = (.pointer (some ⟨g3, o3 + j, none⟩)) := hV 16 (by decide)
      have e17 : x 17 = (.int .i64 (za)) := hV 17 (by decide)
      have e18 : x 18 = (.int .i64 (xa * ya % P * za)) := hV 18 (by decide)
      have e19 : x 19 = (.int .i64 (s + xa * ya % P * za)) := hV 19 (by decide)
      have e20 : x 20 = (.pointer (some ⟨w.heap.size, 0, none⟩)) := hV 20 (by decide)
      have e21 : x 21 = (.int .i64 (P)) := hV 21 (by decide)
      have e22 : x 22 = (.int .i64 ((s + xa * ya % P * za) % P)) := hV 22 (by decide)
      simp only [e0, e1, e2, e3, e4, e5, e6, e7, e8, e9, e10, e11, e12, e13, e14, e15, e16, e17, e18, e19, e20, e21, e22]
      clear e0 e1 e2 e3 e4 e5 e6 e7 e8 e9 e10 e11 e12 e13 e14 e15 e16 e17 e18 e19 e20 e21 e22
      refine any_one (j := 23) (by kernel_rfl) (Eq.trans (by simp only [zA, zB, zC]; exact rfl) rfl) (fun K hK => ?_)
      go_simp
      refine hK.out _ _ (wpAny_done (by kernel_rfl) ?_ _)
      have k3 := hS.2.2.2.1
      have HB3 := Lib.hid (hB1.trans (hS.2.2.2.2.mono hB1.size))
      clear W1 W2 W3 T1 T2 hS
      go_wp2
      go_roundw
      case rel => exact ⟨j + 1, by omega, by go_num, by rw [HST.out], HB3.out, k3⟩
      case measure => simp [intOf]; omega
    · obtain rfl : j = n := by omega
      clear hst
      go_wp2
      go_ret
      exact ⟨ret_int (HEN.out trivial).symm, hB1⟩
end Go.Proofs.YtdbibmilicjllaaGreat
namespace Go.Proofs.YtdbibmilicjllaaGreat
theorem vecTo_get (n : Nat) (v : List Int) {b : Nat} (hb : b < pw n) : ∀ k, k ≤ n → (vecTo n v k).getD b 0 = sumTo k fun i => if b = 2 ^ i then v.getD i 0 else 0 := by
  intro k
  induction k with
  | zero =>
    intro _
    show (List.replicate (pw n) (0 : Int)).getD b 0 = 0
    rw [getD_of_lt 0 (by simpa using hb)]; simp
  | succ k ih =>
    intro hk
    rw [vecTo_succ, getD_set, vecTo_len, sumTo_succ, ih (by omega)]
    by_cases h : b = 2 ^ k
    · rw [if_pos ⟨h.symm, by rw [← h]; exact hb⟩, if_pos h, sumTo_zero (fun i hi => if_neg (fun e => by
        have := Nat.pow_lt_pow_right (show 1 < 2 by omega) hi
        omega)), Int.zero_add]
    · rw [if_neg (fun e => h e.1.symm), if_neg h, Int.add_zero]
theorem bit_iff (a i : Nat) : bit a i = 1 ↔ a.testBit i = true := by rw [Nat.testBit_eq_decide_div_mod_eq]; unfold bit; simp
theorem and_pow_zero (s i : Nat) : ((s ^^^ 2 ^ i) &&& 2 ^ i == 0) = s.testBit i := by
  have h : (s ^^^ 2 ^ i).testBit i = !s.testBit i := by rw [Nat.testBit_xor, Nat.testBit_two_pow_self]; simp
  cases hs : s.testBit i with
  | true =>
    rw [hs] at h
    rw [beq_iff_eq]
    apply Nat.eq_of_testBit_eq
    intro j
    rw [Nat.testBit_and, Nat.testBit_two_pow, Nat.zero_testBit]
    by_cases hj : i = j
    · subst hj; rw [h]; rfl
    · simp [hj]
  | false =>
    rw [hs] at h
    cases hc : ((s ^^^ 2 ^ i) &&& 2 ^ i == 0) with
    | false => rfl
    | true =>
      have := congrArg (fun x => Nat.testBit x i) (beq_iff_eq.1 hc)
      simp only [Nat.testBit_and, Nat.testBit_two_pow_self, h, Nat.zero_testBit] at this
      cases this
/-- The outer product with a vector, number by number. -/
theorem wedge_vec (P : Int) (sq W v : List Int) (n S : Nat) (hW : W.length = pw n) (hS : S < pw n) :
    (wedgeL P sq W (vecTo n v n)).getD S 0 = (sumTo n fun i => if S.testBit i then W.getD (S ^^^ 2 ^ i) 0 * v.getD i 0 * fac P sq (S ^^^ 2 ^ i) (2 ^ i) else 0) % P := by
  unfold wedgeL
  rw [prodL_getD P sq _ W (vecTo n v n) n S hW (vecTo_len n v n) hS]
  congr 1
  rw [sumTo_congr (g := fun a => sumTo n fun i => if a = S ^^^ 2 ^ i then (if S.testBit i then W.getD (S ^^^ 2 ^ i) 0 * v.getD i 0 * fac P sq (S ^^^ 2 ^ i) (2 ^ i) else 0) else 0) fun a ha => ?_, sumTo_comm]
  · refine sumTo_congr fun i hi => ?_
    have h2 : 2 ^ i < pw n := Nat.pow_lt_pow_right (by omega) hi
    rw [sumTo_one (f := fun a => if a = S ^^^ 2 ^ i then (if S.testBit i then W.getD (S ^^^ 2 ^ i) 0 * v.getD i 0 * fac P sq (S ^^^ 2 ^ i) (2 ^ i) else 0) else 0) (S ^^^ 2 ^ i) (xor_lt hS h2) (fun a _ hne => if_neg hne), if_pos rfl]
  · unfold term
    have hx : a ^^^ S < pw n := xor_lt ha hS
    rw [vecTo_get n v hx n (Nat.le_refl _)]
    by_cases ht : ((a &&& (a ^^^ S)) == 0) = true
    · rw [if_pos ht, Int.mul_comm (W.getD a 0), Int.mul_assoc, Int.mul_comm _ (W.getD a 0 * _), ← sumTo_mul]
      refine sumTo_congr fun i hi => ?_
      by_cases h : a ^^^ S = 2 ^ i
      · have ha' : a = S ^^^ 2 ^ i := by rw [← h, Nat.xor_comm a, ← Nat.xor_assoc, Nat.xor_self, Nat.zero_xor]
        have hs : S.testBit i = true := by rw [← and_pow_zero, ← ha', ← h]; exact ht
        rw [if_pos h, if_pos ha', if_pos hs, ← ha', ← h, Int.mul_assoc, Int.mul_assoc, Int.mul_comm (fac P sq a (a ^^^ S))]
      · rw [if_neg h, Int.mul_zero, if_neg (fun e => h (by rw [e, Nat.xor_comm, ← Nat.xor_assoc, Nat.xor_self, Nat.zero_xor]))]
    · rw [if_neg ht]
      refine (sumTo_zero fun i hi => ?_).symm
      by_cases h : a = S ^^^ 2 ^ i
      · rw [if_pos h, if_neg]
        rw [← and_pow_zero, ← h]
        intro hh
        refine ht ?_
        have : a ^^^ S = 2 ^ i := by rw [h, Nat.xor_comm, ← Nat.xor_assoc, Nat.xor_self, Nat.zero_xor]
        rw [this]; exact hh
      · exact if_neg h
theorem fac_above (P : Int) (sq : List Int) {a c : Nat} (h : a < 2 ^ c) : fac P sq a (2 ^ c) = 1 := by
  have hb : ∀ i, bit (2 ^ c) i = 1 → i = c := fun i hi => by
    rw [bit_iff, Nat.testBit_two_pow] at hi
    exact (by simpa using hi : c = i).symm
  have h1 : ∀ i, swaps a (2 ^ c) i = 0 := by
    intro i
    induction i with
    | zero => rfl
    | succ i ih =>
      simp only [swaps, ih, Nat.zero_add]
      split
      · rename_i hi
        rw [hb i hi, Nat.div_eq_of_lt (Nat.lt_of_lt_of_le h (Nat.pow_le_pow_right (by omega) (by omega))), pc_zero]
      · rfl
  have h2 : ∀ i, common P sq a (2 ^ c) i = 1 := by
    intro i
    induction i with
    | zero => rfl
    | succ i ih =>
      simp only [common]
      rw [if_neg, ih]
      rintro ⟨hi, ha⟩
      rw [hb i hi] at ha
      unfold bit at ha
      rw [Nat.div_eq_of_lt h] at ha; simp at ha
  unfold fac
  rw [h1, h2]; rfl
/-- The mask of the first places. -/
def maskTo (B : List (List Int)) : Nat → Nat
  | 0 => 0
  | k + 1 => maskTo B k ^^^ 2 ^ ld B k
theorem maskTo_lt {n : Nat} {B : List (List Int)} (hR : Red n B) : ∀ k, k ≤ B.length → maskTo B k < pw n := by
  intro k
  induction k with
  | zero => intro _; exact pw_pos n
  | succ k ih => intro hk; exact xor_lt (ih (by omega)) (Nat.pow_lt_pow_right (by omega) (hR.lt k hk))
theorem maskTo_below {n : Nat} {B : List (List Int)} (hR : Red n B) : ∀ k, k < B.length → maskTo B k < 2 ^ ld B k := by
  intro k
  induction k with
  | zero => intro _; exact Nat.two_pow_pos _
  | succ k ih =>
    intro hk
    have h1 := ih (by omega)
    have h2 := hR.mono k (k + 1) (by omega) hk
    have h3 : 2 ^ ld B k < 2 ^ ld B (k + 1) := Nat.pow_lt_pow_right (by omega) h2
    exact Nat.xor_lt_two_pow (by omega) h3
theorem maskTo_bits (B : List (List Int)) : ∀ k, k ≤ B.length → ∀ i, (maskTo B k).testBit i = true → isLd B i = true := by
  intro k
  induction k with
  | zero => intro _ i h; rw [show maskTo B 0 = 0 from rfl, Nat.zero_testBit] at h; cases h
  | succ k ih =>
    intro hk i h
    rw [show maskTo B (k + 1) = maskTo B k ^^^ 2 ^ ld B k from rfl, Nat.testBit_xor, Nat.testBit_two_pow] at h
    by_cases hi : ld B k = i
    · exact isLd_iff.2 ⟨k, hk, hi⟩
    · simp [hi] at h; exact ih (by omega) i h
theorem wedges_at {P : Int} (hp : 2 ≤ P) (sq : List Int) {n : Nat} {B : List (List Int)} (hR : Red n B) :
    ∀ k, k ≤ B.length → ∀ S, S < pw n → (∀ i, S.testBit i = true → isLd B i = true) → (wedgesL P sq n (B.take k)).getD S 0 = if S = maskTo B k then 1 else 0 := by
  intro k
  induction k with
  | zero =>
    intro _ S hS _
    show (bladeL n 0).getD S 0 = _
    rw [bladeL_getD n 0 S hS]
    by_cases h : 0 = S
    · rw [if_pos h, if_pos (show S = maskTo B 0 from h.symm)]
    · rw [if_neg h, if_neg (show ¬ S = maskTo B 0 from fun e => h e.symm)]
  | succ k ih =>
    intro hk S hS hb
    have hkl : k < B.length := by omega
    rw [List.take_succ_eq_append_getElem hkl, wedgesL_snoc, wedge_vec P sq _ _ n S (wedgesL_len P sq n _ _ rfl) hS]
    obtain ⟨c, hc⟩ : ∃ c, c = ld B k := ⟨_, rfl⟩
    have hcn : c < n := by rw [hc]; exact hR.lt k hkl
    have hent : ∀ i, (B[k]).getD i 0 = ent B k i := fun i => by unfold ent; rw [getD_of_lt [] hkl]
    rw [sumTo_one c hcn (fun i hi hic => by
      by_cases ht : S.testBit i = true
      · obtain ⟨j, hj, rfl⟩ := isLd_iff.1 (hb i ht)
        have hjk : k ≠ j := fun e => hic (by rw [hc, e])
        rw [if_pos ht, hent, hR.zero j k hj hkl hjk, Int.mul_zero, Int.zero_mul]
      · rw [if_neg ht])]
    have hone : (B[k]).getD c 0 = 1 := by rw [hent, hc]; exact hR.one k hkl
    have hm : maskTo B (k + 1) = maskTo B k ^^^ 2 ^ c := by rw [hc]; rfl
    have hlow := maskTo_below hR k hkl
    rw [← hc] at hlow
    by_cases ht : S.testBit c = true
    · rw [if_pos ht, hone, ih (by omega) (S ^^^ 2 ^ c) (xor_lt hS (Nat.pow_lt_pow_right (by omega) hcn)) (fun i hi => by
        rw [Nat.testBit_xor, Nat.testBit_two_pow] at hi
        by_cases hci : c = i
        · exact hb i (hci ▸ ht)
        · simp [hci] at hi; exact hb i hi), hm]
      by_cases he : S ^^^ 2 ^ c = maskTo B k
      · have hS' : S = maskTo B k ^^^ 2 ^ c := by rw [← he, Nat.xor_assoc, Nat.xor_self, Nat.xor_zero]
        rw [if_pos he, if_pos hS', he, fac_above P sq hlow, Int.one_mul, Int.one_mul, Int.emod_eq_of_lt (by omega) (by omega)]
      · have hS' : ¬ S = maskTo B k ^^^ 2 ^ c := fun e => he (by rw [e, Nat.xor_assoc, Nat.xor_self, Nat.xor_zero])
        rw [if_neg he, if_neg hS', Int.zero_mul, Int.zero_mul]; simp
    · rw [if_neg ht, if_neg]
      · simp
      · intro e
        refine ht ?_
        rw [e, hm, Nat.testBit_xor, Nat.testBit_lt_two_pow hlow, Nat.testBit_two_pow_self]; rfl
end Go.Proofs.YtdbibmilicjllaaGreat
namespace Go.Proofs.YtdbibmilicjllaaGreat
theorem cg_add {p a b c d : Int} (h : a % p = b % p) (h' : c % p = d % p) : (a + c) % p = (b + d) % p := by rw [Int.add_emod, h, h', ← Int.add_emod]
theorem cg_mul {p a b c d : Int} (h : a % p = b % p) (h' : c % p = d % p) : a * c % p = b * d % p := by rw [Int.mul_emod, h, h', ← Int.mul_emod]
theorem cg_self (p a : Int) : a % p % p = a % p := Int.emod_emod_of_dvd _ (Int.dvd_refl p)
theorem sumTo_two {n : Nat} {f : Nat → Int} (a b : Nat) (ha : a < n) (hb : b < n) (hab : a ≠ b) (h : ∀ i, i < n → i ≠ a → i ≠ b → f i = 0) : sumTo n f = f a + f b := by
  have e : sumTo n f = sumTo n (fun i => (if i = a then f i else 0) + (if i = a then 0 else f i)) := sumTo_congr fun i _ => by split <;> omega
  rw [e, sumTo_add, sumTo_one (f := fun i => if i = a then f i else 0) a ha (fun i _ hi => if_neg hi), sumTo_one (f := fun i => if i = a then 0 else f i) b hb (fun i hi hib => by
    by_cases hia : i = a
    · exact if_pos hia
    · simp only [if_neg hia]; exact h i hi hia hib)]
  rw [if_pos rfl, if_neg (Ne.symm hab)]
theorem getD_app_left {α : Type} (d : α) {xs : List α} (ys : List α) {i : Nat} (h : i < xs.length) : (xs ++ ys).getD i d = xs.getD i d := by
  rw [getD_of_lt d h, getD_of_lt d (by rw [List.length_append]; omega), List.getElem_append_left h]
theorem getD_app_right {α : Type} (d : α) (xs ys : List α) (i : Nat) : (xs ++ ys).getD (xs.length + i) d = ys.getD i d := by
  by_cases h : i < ys.length
  · rw [getD_of_lt d h, getD_of_lt d (by rw [List.length_append]; omega), List.getElem_append_right (by omega)]
    congr 1; omega
  · rw [getD_of_ge d (show ys.length ≤ i by omega), getD_of_ge d (show (xs ++ ys).length ≤ xs.length + i by rw [List.length_append]; omega)]
/-- A sum of multiples of the rows. -/
def Sp (p : Int) (n : Nat) (m : List (List Int)) (v : Nat → Int) : Prop := ∃ c : Nat → Int, ∀ q, q < n → v q % p = (sumTo m.length fun i => c i * ent m i q) % p
theorem Sp.congr {p : Int} {n : Nat} {m : List (List Int)} {v u : Nat → Int} (h : Sp p n m v) (e : ∀ q, q < n → v q % p = u q % p) : Sp p n m u := by
  obtain ⟨c, hc⟩ := h
  exact ⟨c, fun q hq => (e q hq).symm.trans (hc q hq)⟩
theorem Sp.zero (p : Int) (n : Nat) (m : List (List Int)) : Sp p n m fun _ => 0 := ⟨fun _ => 0, fun q _ => by rw [sumTo_zero fun i _ => Int.zero_mul _]⟩
theorem Sp.add {p : Int} {n : Nat} {m : List (List Int)} {v u : Nat → Int} (h : Sp p n m v) (h' : Sp p n m u) : Sp p n m fun q => v q + u q := by
  obtain ⟨c, hc⟩ := h
  obtain ⟨d, hd⟩ := h'
  refine ⟨fun i => c i + d i, fun q hq => ?_⟩
  rw [sumTo_congr (g := fun i => c i * ent m i q + d i * ent m i q) fun i _ => Int.add_mul _ _ _, sumTo_add]
  exact cg_add (hc q hq) (hd q hq)
theorem Sp.mul {p : Int} {n : Nat} {m : List (List Int)} {v : Nat → Int} (h : Sp p n m v) (k : Int) : Sp p n m fun q => k * v q := by
  obtain ⟨c, hc⟩ := h
  refine ⟨fun i => k * c i, fun q hq => ?_⟩
  rw [sumTo_congr (g := fun i => k * (c i * ent m i q)) fun i _ => Int.mul_assoc _ _ _, sumTo_mul]
  exact cg_mul rfl (hc q hq)
theorem Sp.row {p : Int} {n : Nat} {m : List (List Int)} {i : Nat} (hi : i < m.length) : Sp p n m fun q => ent m i q := by
  refine ⟨fun j => if j = i then 1 else 0, fun q _ => ?_⟩
  rw [sumTo_one (f := fun j => (if j = i then 1 else 0) * ent m j q) i hi (fun j _ hj => by simp only [if_neg hj, Int.zero_mul])]
  simp
theorem Sp.mem {p : Int} {n : Nat} {m : List (List Int)} {x : List Int} (hx : x ∈ m) : Sp p n m fun q => x.getD q 0 := by
  obtain ⟨i, hi, rfl⟩ := List.getElem_of_mem hx
  refine (Sp.row hi).congr fun q _ => ?_
  unfold ent; rw [getD_of_lt [] hi]
theorem Sp.sum {p : Int} {n : Nat} {m : List (List Int)} (k : Nat) {f : Nat → Nat → Int} (h : ∀ i, i < k → Sp p n m (f i)) : Sp p n m fun q => sumTo k fun i => f i q := by
  induction k with
  | zero => exact Sp.zero p n m
  | succ k ih => exact (ih fun i hi => h i (by omega)).add (h k (by omega))
theorem Sp.nil {p : Int} {n : Nat} {v : Nat → Int} (h : Sp p n [] v) : ∀ q, q < n → v q % p = 0 := fun q hq => by
  obtain ⟨c, hc⟩ := h
  rw [hc q hq]; simp [sumTo]
/-- All rows of the first are made of those of the second. -/
def InSp (p : Int) (n : Nat) (m m' : List (List Int)) : Prop := ∀ i, i < m.length → Sp p n m' fun q => ent m i q
theorem InSp.sp {p : Int} {n : Nat} {m m' : List (List Int)} (h : InSp p n m m') {v : Nat → Int} (hv : Sp p n m v) : Sp p n m' v := by
  obtain ⟨c, hc⟩ := hv
  exact (Sp.sum m.length fun i hi => (h i hi).mul (c i)).congr fun q hq => (hc q hq).symm
theorem InSp.refl (p : Int) (n : Nat) (m : List (List Int)) : InSp p n m m := fun _ hi => Sp.row hi
theorem InSp.trans {p : Int} {n : Nat} {m m' m2 : List (List Int)} (h : InSp p n m m') (h' : InSp p n m' m2) : InSp p n m m2 := fun i hi => h'.sp (h i hi)
theorem InSp.of_mem {p : Int} {n : Nat} {m m' : List (List Int)} (h : ∀ x ∈ m, Sp p n m' fun q => x.getD q 0) : InSp p n m m' := fun i hi =>
  (h _ (List.getElem_mem hi)).congr fun q _ => by unfold ent; rw [getD_of_lt [] hi]
theorem InSp.of_sub {p : Int} {n : Nat} {m m' : List (List Int)} (h : ∀ x ∈ m, x ∈ m') : InSp p n m m' := InSp.of_mem fun x hx => Sp.mem (h x hx)
theorem InSp.append {p : Int} {n : Nat} {m1 m2 m' : List (List Int)} (h1 : InSp p n m1 m') (h2 : InSp p n m2 m') : InSp p n (m1 ++ m2) m' := InSp.of_mem fun x hx => by
  rcases List.mem_append.1 hx with h | h
  · exact h1.sp (Sp.mem h)
  · exact h2.sp (Sp.mem h)
/-- Two numbers that have the same remainder and are remainders. -/
theorem cg_eq {p a b : Int} (ha : 0 ≤ a ∧ a < p) (hb : 0 ≤ b ∧ b < p) (h : a % p = b % p) : a = b := by
  rwa [Int.emod_eq_of_lt ha.1 ha.2, Int.emod_eq_of_lt hb.1 hb.2] at h
theorem scaledAt_in {p : Int} (hP : isP p = true) {n : Nat} {m : List (List Int)} (hT : Tab p n m) {k d : Nat} (hd : d < m.length) (hv : pivOf m k d < m.length) :
    InSp p n (scaledAt p m k d) m ∧ InSp p n m (scaledAt p m k d) := by
  have hp : 2 ≤ p := by have := isP_ge hP; omega
  have hlen := scaledAt_len p m k d
  have hE := fun r q hq => ent_scaled (p := p) (k := k) rfl hd hv hT r q hq
  obtain ⟨hb1, hb2⟩ := pivOf_bound m k d (by omega)
  have hx : ent m (pivOf m k d) k ≠ 0 := piv_at m k _ _ (by unfold pivOf at hv; omega)
  obtain ⟨x1, x2⟩ := hT.ent (by omega) (pivOf m k d) k
  obtain ⟨i1, i2, i3⟩ := inv_spec hP (show 0 < ent m (pivOf m k d) k by omega) x2
  have hinv : ent m (pivOf m k d) k * invF p (ent m (pivOf m k d) k) % p = 1 := (i3 _ (by omega) i2).2 rfl
  obtain ⟨v, hv'⟩ : ∃ v, v = pivOf m k d := ⟨_, rfl⟩
  rw [← hv'] at hE hx x1 x2 hinv hv hb1 hb2
  obtain ⟨y, hy⟩ : ∃ y, y = invF p (ent m v k) := ⟨_, rfl⟩
  rw [← hy] at hE hinv
  constructor
  · intro r hr
    rw [hlen] at hr
    by_cases h1 : r = d
    · refine ((Sp.row hv).mul y).congr fun q hq => ?_
      rw [hE r q hq, if_pos h1, cg_self, Int.mul_comm]
    · by_cases h2 : r = v
      · refine (Sp.row hd).congr fun q hq => ?_
        rw [hE r q hq, if_neg h1, if_pos h2]
      · refine (Sp.row hr).congr fun q hq => ?_
        rw [hE r q hq, if_neg h1, if_neg h2]
  · intro r hr
    by_cases h2 : r = v
    · refine ((Sp.row (show d < (scaledAt p m k d).length by omega)).mul (ent m v k)).congr fun q hq => ?_
      rw [hE d q hq, if_pos rfl, h2]
      have e1 : ent m v k * (ent m v q * y % p) % p = ent m v k * (ent m v q * y) % p := cg_mul rfl (cg_self _ _)
      have e2 : ent m v k * (ent m v q * y) = ent m v q * (ent m v k * y) := by rw [Int.mul_comm (ent m v q) y, ← Int.mul_assoc, Int.mul_comm]
      rw [e1, e2]
      have e3 : ent m v q * (ent m v k * y) % p = ent m v q * 1 % p := cg_mul rfl (by rw [hinv, Int.emod_eq_of_lt (by omega) (by omega)])
      rw [e3, Int.mul_one]
    · by_cases h1 : r = d
      · refine (Sp.row (show v < (scaledAt p m k d).length by omega)).congr fun q hq => ?_
        rw [hE v q hq, if_neg (fun e => h2 (h1.trans e.symm)), if_pos rfl, h1]
      · refine (Sp.row (show r < (scaledAt p m k d).length by omega)).congr fun q hq => ?_
        rw [hE r q hq, if_neg h1, if_neg h2]
theorem clearTo_in {p : Int} {n : Nat} {m : List (List Int)} (hT : Tab p n m) {k d : Nat} (hd : d < m.length) :
    InSp p n (clearTo p m d k m.length) m ∧ InSp p n m (clearTo p m d k m.length) := by
  have hlen := clearTo_len p m d k m.length
  have hE := fun r q hr hq => ent_cleared (p := p) hT d k r q hr hq
  constructor
  · intro r hr
    rw [hlen] at hr
    by_cases h1 : r = d
    · refine (Sp.row hd).congr fun q hq => ?_
      rw [hE r q hr hq, if_pos h1]
    · refine ((Sp.row hr).add ((Sp.row hd).mul (-(ent m r k)))).congr fun q hq => ?_
      rw [hE r q hr hq, if_neg h1, cg_self]
  · intro r hr
    by_cases h1 : r = d
    · refine (Sp.row (show d < (clearTo p m d k m.length).length by omega)).congr fun q hq => ?_
      rw [hE d q hd hq, if_pos rfl, h1]
    · refine ((Sp.row (show r < (clearTo p m d k m.length).length by omega)).add ((Sp.row (show d < (clearTo p m d k m.length).length by omega)).mul (ent m r k))).congr fun q hq => ?_
      rw [hE r q hr hq, if_neg h1, hE d q hd hq, if_pos rfl]
      refine (cg_add (cg_self _ _) rfl).trans ?_
      congr 1
      rw [Int.neg_mul]; omega
theorem stepB_in {p : Int} (hP : isP p = true) {n : Nat} {s : List (List Int) × Nat} {k : Nat} (hT : Tab p n s.1) (hd : s.2 ≤ s.1.length) : InSp p n (stepB p k s).1 s.1 ∧ InSp p n s.1 (stepB p k s).1 := by
  unfold stepB
  split
  · exact ⟨InSp.refl _ _ _, InSp.refl _ _ _⟩
  · rename_i hne
    have hb := pivOf_bound s.1 k s.2 hd
    have hp : 2 ≤ p := by have := isP_ge hP; omega
    obtain ⟨a1, a2⟩ := scaledAt_in (k := k) hP hT (show s.2 < s.1.length by omega) (by omega)
    obtain ⟨b1, b2⟩ := clearTo_in (k := k) (d := s.2) (scaledAt_tab (p := p) (k := k) (by omega) hT (show s.2 < s.1.length by omega) (by omega)) (by rw [scaledAt_len]; omega)
    rw [scaledAt_len] at b1 b2
    exact ⟨b1.trans a1, a2.trans b2⟩
theorem basisTo_in {p : Int} (hP : isP p = true) {n : Nat} (m : List (List Int)) (hT : Tab p n m) (k : Nat) (hk : k ≤ n) : InSp p n (basisTo p m k).1 m ∧ InSp p n m (basisTo p m k).1 := by
  have hp : 2 ≤ p := by have := isP_ge hP; omega
  induction k with
  | zero => exact ⟨InSp.refl _ _ _, InSp.refl _ _ _⟩
  | succ k ih =>
    obtain ⟨h1, h2⟩ := ih (by omega)
    obtain ⟨t1, t2, t3⟩ := basisTo_inv (p := p) (by omega) m hT k
    obtain ⟨g1, g2⟩ := stepB_in (k := k) hP (s := basisTo p m k) t1 (by omega)
    exact ⟨g1.trans h1, h2.trans g2⟩
/-- The reduced basis makes what the rows make. -/
theorem basisL_in {p : Int} (hP : isP p = true) {n : Nat} (m : List (List Int)) (hT : Tab p n m) : InSp p n (basisL p m) m ∧ InSp p n m (basisL p m) := by
  have hp : 2 ≤ p := by have := isP_ge hP; omega
  by_cases h0 : 0 < m.length
  · have hl := row0_len hT h0
    obtain ⟨a1, a2⟩ := basisTo_in hP m hT n (Nat.le_refl _)
    obtain ⟨c, hc⟩ := basisTo_ech hP m hT n (Nat.le_refl _)
    obtain ⟨h1, h2, h3⟩ := basisTo_inv (p := p) (by omega) m hT n
    have e : basisL p m = (basisTo p m n).1.take (basisTo p m n).2 := by unfold basisL; rw [hl]
    constructor
    · refine InSp.trans (InSp.of_sub fun x hx => ?_) a1
      rw [e] at hx
      exact List.mem_of_mem_take hx
    · refine a2.trans fun i hi => ?_
      by_cases hid : i < (basisTo p m n).2
      · refine (Sp.mem (x := (basisTo p m n).1[i]) ?_).congr fun q _ => by unfold ent; rw [getD_of_lt [] hi]
        rw [e]
        exact List.mem_take_iff_getElem.2 ⟨i, by omega, rfl⟩
      · exact (Sp.zero _ _ _).congr fun q hq => by rw [hc.rest i (by omega) hi q hq]
  · obtain rfl : m = [] := List.eq_nil_of_length_eq_zero (by omega)
    rw [basisL_nil]
    exact ⟨InSp.refl _ _ _, InSp.refl _ _ _⟩
/-- What a reduced basis makes is told by its numbers at the places of the firsts. -/
theorem Red.coef {p : Int} {n : Nat} {B : List (List Int)} (hR : Red n B) {v : Nat → Int} (hv : Sp p n B v) : ∀ q, q < n → v q % p = (sumTo B.length fun i => v (ld B i) * ent B i q) % p := by
  obtain ⟨c, hc⟩ := hv
  intro q hq
  rw [hc q hq]
  refine sumTo_mod p fun i hi => cg_mul ?_ rfl
  rw [hc _ (hR.lt i hi), sumTo_one (f := fun j => c j * ent B j (ld B i)) i hi (fun j hj hji => by rw [hR.zero i j hi hj hji, Int.mul_zero]), hR.one i hi, Int.mul_one]
theorem Red.lead_of {p : Int} {n : Nat} {B : List (List Int)} (hR : Red n B) {v : Nat → Int} (hv : Sp p n B v) {q0 : Nat} (hq : q0 < n) (h0 : v q0 % p ≠ 0) (hb : ∀ q, q < q0 → v q % p = 0) : ∃ i, i < B.length ∧ ld B i = q0 := by
  refine Classical.byContradiction fun hno => h0 ?_
  rw [hR.coef hv q0 hq]
  refine (sumTo_mod p (g := fun _ => 0) fun i hi => ?_).trans (by rw [sumTo_zero fun _ _ => rfl]; rfl)
  rcases Nat.lt_trichotomy (ld B i) q0 with h | h | h
  · rw [Int.mul_emod, hb _ h]; simp
  · exact absurd ⟨i, hi, h⟩ hno
  · rw [hR.before i q0 h, Int.mul_zero]
theorem Red.leads_le {p : Int} (hp : 2 ≤ p) {n : Nat} {B C : List (List Int)} (hB : Red n B) (hC : Red n C) (h1 : InSp p n B C) (h2 : InSp p n C B) : ∀ i, i < B.length → i < C.length ∧ ld C i = ld B i := by
  have one : ∀ (B C : List (List Int)), Red n B → Red n C → InSp p n B C → ∀ i, i < B.length → ∃ j, j < C.length ∧ ld C j = ld B i := fun B C hB hC h i hi =>
    hC.lead_of (h i hi) (hB.lt i hi) (by rw [hB.one i hi, Int.emod_eq_of_lt (by omega) (by omega)]; omega) (fun q hq => by rw [hB.before i q hq]; simp)
  intro i
  induction i using Nat.strongRecOn with
  | _ i ih =>
    intro hi
    obtain ⟨j, hj, e⟩ := one B C hB hC h1 i hi
    have hij : i ≤ j := by
      refine Nat.le_of_not_lt fun hlt => ?_
      have := (ih j hlt (by omega)).2
      have := hB.inj (i := j) (j := i) (by omega) hi (by omega)
      omega
    have hic : i < C.length := by omega
    refine ⟨hic, ?_⟩
    rcases Nat.lt_or_ge i j with hlt | hge
    · obtain ⟨k, hk, e2⟩ := one C B hC hB h2 i hic
      have m1 := hC.mono i j hlt hj
      rcases Nat.lt_trichotomy k i with h | h | h
      · have := (ih k h (by omega)).2
        have := hC.inj (i := k) (j := i) (by omega) hic (by omega)
        omega
      · subst h; omega
      · have := hB.mono i k h hk; omega
    · obtain rfl : i = j := by omega
      exact e
/-- There is only one reduced basis. -/
theorem Red.unique {p : Int} (hp : 2 ≤ p) {n : Nat} {B C : List (List Int)} (hB : Red n B) (hC : Red n C) (TB : Tab p n B) (TC : Tab p n C) (h1 : InSp p n B C) (h2 : InSp p n C B) : B = C := by
  have a := hB.leads_le hp hC h1 h2
  have b := hC.leads_le hp hB h2 h1
  have hl : B.length = C.length := by
    rcases Nat.lt_trichotomy B.length C.length with h | h | h
    · have := (b B.length h).1; omega
    · exact h
    · have := (a C.length h).1; omega
  refine list_ext_getD [] hl fun i hi => ?_
  have hic : i < C.length := by omega
  obtain ⟨r1, r2⟩ := TB.row hi
  obtain ⟨s1, s2⟩ := TC.row hic
  refine list_ext_getD 0 (by omega) fun q hq => ?_
  rw [r1] at hq
  refine cg_eq (p := p) (TB.ent (by omega) i q) (TC.ent (by omega) i q) ?_
  show ent B i q % p = ent C i q % p
  rw [hC.coef (h1 i hi) q hq]
  congr 1
  rw [sumTo_one (f := fun j => ent B i (ld C j) * ent C j q) i hic (fun j hj hji => by
    rw [← (b j hj).2, hB.zero j i (by omega) hi (Ne.symm hji), Int.zero_mul]), (a i hi).2, hB.one i hi, Int.one_mul]
/-- Orthogonal to all rows. -/
def Orth (p : Int) (n : Nat) (m : List (List Int)) (v : Nat → Int) : Prop := ∀ i, i < m.length → (sumTo n fun q => ent m i q * v q) % p = 0
theorem Orth.sp {p : Int} {n : Nat} {m : List (List Int)} {v : Nat → Int} (h : Orth p n m v) {u : Nat → Int} (hu : Sp p n m u) : (sumTo n fun q => u q * v q) % p = 0 := by
  obtain ⟨c, hc⟩ := hu
  have e1 : (sumTo n fun q => u q * v q) % p = (sumTo n fun q => sumTo m.length fun i => c i * (ent m i q * v q)) % p := by
    refine sumTo_mod p fun q hq => ?_
    rw [sumTo_congr (f := fun i => c i * (ent m i q * v q)) (g := fun i => v q * (c i * ent m i q)) (fun i _ => by rw [Int.mul_comm (v q), Int.mul_assoc]), sumTo_mul, Int.mul_comm (v q)]
    exact cg_mul (hc q hq) rfl
  rw [e1, sumTo_comm]
  refine (sumTo_mod p (g := fun _ => 0) fun i hi => ?_).trans (by rw [sumTo_zero fun _ _ => rfl]; rfl)
  rw [sumTo_mul, Int.mul_emod, h i hi]; simp
theorem Orth.of_in {p : Int} {n : Nat} {m m' : List (List Int)} {v : Nat → Int} (h : Orth p n m v) (hi : InSp p n m' m) : Orth p n m' v := fun i hl => h.sp (hi i hl)
theorem freeRow_at {p : Int} {B : List (List Int)} {n f k : Nat} (hk : k < n) : (freeRow p B n f).getD k 0 = if k = f then 1 else match ldIdx B k with | some i => (-(ent B i f)) % p | none => 0 := by
  unfold freeRow freePart
  rw [tab_getD hk]; simp
  rfl
theorem freeRow_ld {p : Int} {B : List (List Int)} {n f i : Nat} (hR : Red n B) (hi : i < B.length) (hf : isLd B f = false) : (freeRow p B n f).getD (ld B i) 0 = (-(ent B i f)) % p := by
  rw [freeRow_at (hR.lt i hi), if_neg (fun e => by rw [isLd_iff.2 ⟨i, hi, e⟩] at hf; cases hf), ldIdx_some hR hi]
theorem freeRow_own {p : Int} {B : List (List Int)} {n f : Nat} (hf : f < n) : (freeRow p B n f).getD f 0 = 1 := by rw [freeRow_at hf, if_pos rfl]
theorem freeRow_no {p : Int} {B : List (List Int)} {n f k : Nat} (hk : k < n) (hkf : k ≠ f) (hl : isLd B k = false) : (freeRow p B n f).getD k 0 = 0 := by rw [freeRow_at hk, if_neg hkf, ldIdx_none hl]
theorem freeRow_orth {p : Int} {B : List (List Int)} {n f : Nat} (hR : Red n B) (hf : f < n) (hl : isLd B f = false) : Orth p n B fun q => (freeRow p B n f).getD q 0 := fun i hi => by
  have hne : ld B i ≠ f := fun e => by rw [isLd_iff.2 ⟨i, hi, e⟩] at hl; cases hl
  rw [sumTo_two (f := fun q => ent B i q * (freeRow p B n f).getD q 0) (ld B i) f (hR.lt i hi) hf hne (fun q hq h1 h2 => by
    cases hq' : isLd B q with
    | false => simp only [freeRow_no hq h2 hq', Int.mul_zero]
    | true =>
      obtain ⟨j, hj, rfl⟩ := isLd_iff.1 hq'
      simp only [hR.zero j i hj hi (fun e => h1 (by rw [e])), Int.zero_mul]), freeRow_ld hR hi hl, freeRow_own hf, hR.one i hi, Int.one_mul, Int.mul_one]
  refine (cg_add (cg_self _ _) rfl).trans ?_
  rw [Int.add_comm, ← Int.sub_eq_add_neg, Int.sub_self]; rfl
theorem freeTo_mem {p : Int} {B : List (List Int)} {n k : Nat} {x : List Int} : x ∈ freeTo p B n k ↔ ∃ f, f < k ∧ isLd B f = false ∧ x = freeRow p B n f := by
  unfold freeTo
  rw [List.mem_map]
  constructor
  · rintro ⟨f, hf, rfl⟩
    rw [List.mem_filter] at hf
    exact ⟨f, by simpa using hf.1, by simpa using hf.2, rfl⟩
  · rintro ⟨f, h1, h2, rfl⟩
    exact ⟨f, List.mem_filter.2 ⟨by simpa using h1, by simp [h2]⟩, rfl⟩
/-- What the free rows make is what is orthogonal to the reduced basis. -/
theorem freeTo_sp {p : Int} {B : List (List Int)} {n : Nat} (hR : Red n B) {v : Nat → Int} : Sp p n (freeTo p B n n) v ↔ Orth p n B v := by
  constructor
  · rintro ⟨c, hc⟩ i hi
    have h2 : Orth p n (freeTo p B n n) fun q => ent B i q := fun r hr => by
      have hx := List.getElem_mem hr
      obtain ⟨f, hf, hl, e⟩ := freeTo_mem.1 hx
      have := freeRow_orth (p := p) hR hf hl i hi
      rw [sumTo_congr (g := fun q => ent B i q * (freeRow p B n f).getD q 0) fun q _ => by unfold ent; rw [getD_of_lt [] hr, e, Int.mul_comm]]
      exact this
    have := h2.sp ⟨c, hc⟩
    rw [sumTo_congr (g := fun q => v q * ent B i q) fun q _ => Int.mul_comm _ _]
    exact this
  · intro h
    have hmem : Sp p n (freeTo p B n n) fun q => sumTo n fun f => if isLd B f then 0 else v f * (freeRow p B n f).getD q 0 := Sp.sum n fun f hf => by
      cases hl : isLd B f with
      | true => simp only [if_true]; exact Sp.zero _ _ _
      | false => simp only [Bool.false_eq_true, if_false]; exact (Sp.mem (freeTo_mem.2 ⟨f, hf, hl, rfl⟩)).mul (v f)
    refine hmem.congr fun q hq => ?_
    cases hl : isLd B q with
    | false =>
      rw [sumTo_one (f := fun f => if isLd B f then 0 else v f * (freeRow p B n f).getD q 0) q hq (fun f hf hfq => by
        cases hlf : isLd B f with
        | true => simp
        | false => simp only [Bool.false_eq_true, if_false, freeRow_no hq (Ne.symm hfq) hl, Int.mul_zero])]
      simp only [hl, Bool.false_eq_true, if_false, freeRow_own hq, Int.mul_one]
    | true =>
      obtain ⟨i, hi, rfl⟩ := isLd_iff.1 hl
      have ho := h i hi
      have e1 : (sumTo n fun f => ent B i f * v f) % p = (sumTo n fun f => (if f = ld B i then v f else 0) + (-1) * (if isLd B f then 0 else v f * (freeRow p B n f).getD (ld B i) 0)) % p := by
        refine sumTo_mod p fun f hf => ?_
        cases hlf : isLd B f with
        | true =>
          obtain ⟨j, hj, rfl⟩ := isLd_iff.1 hlf
          simp only [if_true, Int.mul_zero, Int.add_zero]
          by_cases hji : j = i
          · subst hji; rw [if_pos rfl, hR.one j hj, Int.one_mul]
          · rw [if_neg (fun e => hji (hR.inj hj hi e)), hR.zero j i hj hi (Ne.symm hji), Int.zero_mul]
        | false =>
          have hne : f ≠ ld B i := fun e => by rw [e, hl] at hlf; cases hlf
          simp only [Bool.false_eq_true, if_false, if_neg hne, Int.zero_add, freeRow_ld hR hi hlf]
          have : -1 * (v f * (-(ent B i f) % p)) % p = -1 * (v f * (-(ent B i f))) % p := cg_mul rfl (cg_mul rfl (cg_self _ _))
          rw [this]; congr 1
          rw [Int.mul_neg, Int.neg_mul, Int.one_mul, Int.neg_neg, Int.mul_comm]
      rw [e1, sumTo_add, sumTo_mul, sumTo_one (f := fun f => if f = ld B i then v f else 0) (ld B i) hq (fun f _ hf => if_neg hf), if_pos rfl] at ho
      obtain ⟨S, hS⟩ : ∃ S, S = sumTo n fun f => if isLd B f then 0 else v f * (freeRow p B n f).getD (ld B i) 0 := ⟨_, rfl⟩
      rw [← hS] at ho ⊢
      have := cg_add (ho.trans (Int.zero_emod p).symm) (show S % p = S % p from rfl)
      rw [Int.zero_add] at this
      rw [← this]; congr 1; omega
theorem kernL_sp {p : Int} (hP : isP p = true) {n : Nat} {m : List (List Int)} (hT : Tab p n m) {v : Nat → Int} : Sp p n (kernL p m n) v ↔ Orth p n m v := by
  have hp : 2 ≤ p := by have := isP_ge hP; omega
  obtain ⟨a1, a2⟩ := basisL_in hP m hT
  obtain ⟨b1, b2⟩ := basisL_in hP _ (freeTo_tab (p := p) hp (basisL p m) n n)
  constructor
  · exact fun h => ((freeTo_sp (basisL_red hP m hT)).1 (b1.sp h)).of_in a2
  · exact fun h => b2.sp ((freeTo_sp (basisL_red hP m hT)).2 (h.of_in a1))
end Go.Proofs.YtdbibmilicjllaaGreat
namespace Go.Proofs.YtdbibmilicjllaaGreat
theorem transL_row {m : List (List Int)} {n q : Nat} {p : Int} (hT : Tab p n m) (h0 : 0 < m.length) (hq : q < n) : (transL m).getD q [] = tab m.length fun i => ent m i q := by
  unfold transL
  rw [row0_len hT h0, tab_getD hq]
theorem apply_at {p : Int} {n : Nat} {a : List (List Int)} (hT : Tab p n a) (h0 : 0 < a.length) (z : List Int) {q : Nat} (hq : q < n) : (applyL p (transL a) z).getD q 0 = (sumTo a.length fun i => ent a i q * z.getD i 0) % p := by
  unfold applyL
  rw [tab_getD (by rw [transL_len hT h0]; exact hq), transL_row hT h0 hq]
  unfold dotL
  rw [tab_len]
  congr 1
  exact sumTo_congr fun i hi => by rw [tab_getD hi]
theorem take_getD {α : Type} (d : α) (z : List α) {k i : Nat} (h : i < k) : (z.take k).getD i d = z.getD i d := by
  by_cases hz : i < z.length
  · rw [getD_of_lt d (by rw [List.length_take]; omega), getD_of_lt d hz, List.getElem_take]
  · rw [getD_of_ge d (by rw [List.length_take]; omega), getD_of_ge d (by omega)]
end Go.Proofs.YtdbibmilicjllaaGreat
