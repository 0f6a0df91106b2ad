/-
  LawFnDecompositions: part 10 of the texts that the proof needs. No condition.
-/
import Derived.Test.YtdbibmilicjllaaGreatQ9
namespace Go.Proofs.YtdbibmilicjllaaGreat
open Go.RowKit
set_option maxHeartbeats 6400000 in
set_option maxRecDepth 8000 in
theorem determinant_any (p : Int) (A : Option Addr) (n c : Nat) (M : List (List Int)) (w : World) (HP : isP p = true) (h0 : 0 < n) (hn : n ≤ 65536) (ha : RdII w A n M) (hT : Tab p n M) :
    Calls Tryz.prog 150 #[.int .i64 p, .slice A n c] w fun e w' => e = .returned (.int .i64 (detL p M)) ∧ Below w.heap.size w w' := by
  have hML := ha.len
  obtain ⟨hp3, hp2⟩ := isP_ge HP
  have hp : 2 ≤ p := by omega
  have HP' := Lib.hid HP
  have hclone := cloneRows_any p A n c M n w hn hn ha hT
  have HST : Hid (detL p M = detF p n M 0 1) := Lib.hid (by unfold detL; rw [hML])
  have HT := Lib.hid (And.intro hT hML)
  clear hT HP ha
  go_enter Tryz.func150, Tryz.ntmps150
  go_wp2_with fail
  refine hclone.mono ?_
  rintro e w1 ⟨A1, c1, rfl, hM1⟩
  clear hclone hML
  obtain ⟨g, rfl, -⟩ := hM1.at_ h0
  go_wp2
  go_loopw [6, 14] (fun o q wr => ∃ (i : Nat) (out : Int) (L : List (List Int)), o = .int .i64 out ∧ q = .int .i64 i ∧ i ≤ n ∧ (0 ≤ out ∧ out < p) ∧ Hid (detL p M = detF p (n - i) L i out) ∧ Hid (Tab p n L ∧ L.length = n) ∧ MkII w wr (some ⟨g, 0, none⟩) n c1 L) (fun _ q _ => n - (intOf q).toNat)
  case atStart => exact ⟨0, 1, M, rfl, rfl, by omega, by omega, Lib.hid (by rw [HST.out]; rfl), HT, hM1⟩
  case round =>
    obtain ⟨i, out, L, rfl, rfl, hin, hob, HD, HT1, hM⟩ := hrel
    clear hM1 HST HT
    have HM := Lib.hid hM
    have HBB := Lib.hid hM.b
    clear hM
    by_cases hli : i < n
    · have HSUC : Hid (detF p (n - i) L i out = detF p ((n - (i + 1)) + 1) L i out) := Lib.hid (by rw [show n - i = (n - (i + 1)) + 1 by omega])
      go_wp2
      go_loop [8] (fun q => ∃ j : Nat, i ≤ j ∧ j ≤ n ∧ q = .int .i64 j ∧ Hid (piv L i (n - j) j = pivOf L i i)) (fun q => n - (intOf q).toNat)
      case atStart => exact ⟨i, by omega, by omega, rfl, Lib.hid (by unfold pivOf; rw [HT1.out.2])⟩
      case round =>
        obtain ⟨j, hj1, hj2, rfl, hj3⟩ := hrel
        by_cases hlj : j < n
        · obtain ⟨g0, e0, hxj, Aj, cj, hcj, hrj⟩ := HM.out.at_ hlj
          injection e0 with e0; injection e0 with e0 _ _; subst e0
          have HRJ := Lib.hid (HT1.out.1 L[j] (List.getElem_mem hxj))
          have hlj2 : L[j].length = n := HRJ.out.1
          rw [hlj2] at hcj hrj
          obtain ⟨gj, oj, rfl, hxe, hce⟩ := hrj.rd.int hli
          have HE : Hid (ent L j i = L[j][i]) := Lib.hid (ent_at' hxj hxe)
          have HPV : Hid (piv L i (n - j) j = if ent L j i = 0 then piv L i (n - (j + 1)) (j + 1) else j) := Lib.hid (by
            rw [show n - j = (n - (j + 1)) + 1 by omega]; rfl)
          have HROW : Hid ((swapL L i j)[i]? = some L[j]) := Lib.hid (by
            rw [swapL_get? L (by rw [HT1.out.2]; exact hli) hxj]
            by_cases hdj : i = j
            · subst hdj; rw [if_pos rfl]; exact List.getElem?_eq_getElem hxj
            · rw [if_neg hdj, if_pos rfl]; exact List.getElem?_eq_getElem hxj)
          have HTS : Hid (Tab p n (swapL L i j) ∧ (swapL L i j).length = n) := Lib.hid ⟨swapL_tab HT1.out.1 (by rw [HT1.out.2]; exact hli) hxj, by rw [swapL_len, HT1.out.2]⟩
          obtain ⟨R, hR⟩ : ∃ R, R = L[j] := ⟨_, rfl⟩
          have HXE : Hid (∀ h : i < R.length, R[i] = L[j][i]) := Lib.hid (fun h => by simp only [hR])
          rw [← hR] at hrj HRJ HROW
          clear hlj2
          obtain ⟨xe, hxe'⟩ : ∃ x, x = L[j][i] := ⟨_, rfl⟩
          rw [← hxe'] at hce HE HXE
          have HX : Hid (0 ≤ xe ∧ xe < p) := Lib.hid (hxe' ▸ ((HT1.out.1 L[j] (List.getElem_mem hxj)).2 _ (List.getElem_mem hxe)))
          clear hxe' hxe hR hxj
          cases hz : (xe == 0)
          · have hne : xe ≠ 0 := by simpa using hz
            have HVP : Hid (pivOf L i i = j) := Lib.hid (by rw [← hj3.out, HPV.out, if_neg (by rw [HE.out]; exact hne)])
            have HEI : Hid (ent (swapL L i j) i i = xe) := Lib.hid (by
              have h1 := HROW.out
              have e1 : (swapL L i j).getD i [] = R := by rw [List.getD_eq_getElem?_getD, h1]; rfl
              have hl : i < R.length := by rw [HRJ.out.1]; exact hli
              unfold ent
              rw [e1, getD_of_lt 0 hl, HXE.out hl])
            have HNX : Hid (detL p M = detF p (n - (i + 1)) (dClr p (swapL L i j) i n) (i + 1) ((if j = i then out else (-out) % p) * xe % p)) := Lib.hid (by
              rw [HD.out, HSUC.out, detF_step (by rw [HVP.out, HT1.out.2]; omega), HVP.out, HEI.out, HT1.out.2])
            have hx1 := HX.out
            have hiv := invF_small hp xe
            have tj : ((j : Int) == (n : Int)) = false := by simp; omega
            by_cases hij : j = i
            · obtain rfl := hij
              have t2 : ((j : Int) != (j : Int)) = false := by simp
              have HSM : Hid (swapL L j j = L) := Lib.hid (swapL_same L (by rw [HT1.out.2]; exact hli))
              have HM2 := Lib.hid (show MkII w wr (some ⟨g, 0, none⟩) n c1 (swapL L j j) by rw [HSM.out]; exact HM.out)
              clear hrj hcj hce HSM
              obtain ⟨N, hN⟩ : ∃ N, N = swapL L j j := ⟨_, rfl⟩
              rw [← hN] at HM2 HTS HEI HNX HROW
              obtain ⟨o2, ho2⟩ : ∃ o2, o2 = out := ⟨_, rfl⟩
              have HO2 : Hid (0 ≤ o2 ∧ o2 < p) := Lib.hid (by rw [ho2]; exact hob)
              have HNXT : Hid (detL p M = detF p (n - (j + 1)) (dClr p N j n) (j + 1) (o2 * xe % p)) := Lib.hid (by rw [HNX.out, if_pos rfl, ho2])
              rw [← ho2]
              clear hN ho2 HNX
              obtain ⟨g0, e0, hxs, As, cs, hcs2, hrs⟩ := HM2.out.at_ hli
              injection e0 with e0; injection e0 with e0 _ _; subst e0
              have hrow : N[j] = R := by have := HROW.out; rw [List.getElem?_eq_getElem hxs] at this; exact Option.some.inj this
              rw [hrow] at hcs2 hrs
              have hRl := HRJ.out.1
              rw [hRl] at hcs2 hrs
              obtain ⟨gs, os, rfl, hxe2, hce2⟩ := hrs.rd.int hli
              rw [HXE.out hxe2] at hce2
              clear hrs hrow hxe2 hxs hRl
              have hob2 := HO2.out
              have hmb := mul_b (a := o2) (b := xe) (by omega) (by omega)
              have hw1 := i64_small (x := o2 * xe) (by omega) (by omega)
              have hnum := fun w' => num_any p (o2 * xe) w' (by omega) hp2 (by omega) (by omega)
              go_wp2_with fail
              refine (hnum _).mono ?_
              rintro e w5 ⟨rfl, rfl⟩
              clear hnum hce2 hcs2
              have HM3 := Lib.hid (show MkII w wr (some ⟨g, 0, none⟩) n c1 (dClr p N j (j + 1)) by rw [dClr_start]; exact HM2.out)
              have HOX : Hid (0 ≤ o2 * xe % p ∧ o2 * xe % p < p) := Lib.hid ⟨Int.emod_nonneg _ (by omega), Int.emod_lt_of_pos _ (by omega)⟩
              clear HM2 HM
              go_wp2
              go_loopw [9] (fun q w4 => ∃ r : Nat, j + 1 ≤ r ∧ r ≤ n ∧ q = .int .i64 r ∧ MkII w w4 (some ⟨g, 0, none⟩) n c1 (dClr p N j r)) (fun q _ => n - (intOf q).toNat)
              case atStart => exact ⟨j + 1, by omega, by omega, by go_num, HM3.out⟩
              case round =>
                obtain ⟨r, hr1, hr2, rfl, hM4⟩ := hrel
                clear HM3
                by_cases hlr : r < n
                · have hT4 : Tab p n (dClr p N j r) := dClr_tab (by omega) HTS.out.1 j r
                  have hr4 : (dClr p N j r).getD r [] = N.getD r [] := by rw [dClr_getD (by rw [HTS.out.2]; exact hlr), if_neg (by omega)]
                  have hd4 : (dClr p N j r).getD j [] = N.getD j [] := by rw [dClr_getD (by rw [HTS.out.2]; exact hli), if_neg (by omega)]
                  obtain ⟨g0, e0, hxr, Ar, cr, hcr, hrr⟩ := hM4.at_ hlr
                  injection e0 with e0; injection e0 with e0 _ _; subst e0
                  obtain ⟨g0, e0, hxd, Ad2, cd2, hcd2, hrd2⟩ := hM4.at_ hli
                  injection e0 with e0; injection e0 with e0 _ _; subst e0
                  have HR1 := Lib.hid (hT4 _ (List.getElem_mem hxr))
                  have HD1 := Lib.hid (hT4 _ (List.getElem_mem hxd))
                  have hl1 := HR1.out.1
                  have hl2 := HD1.out.1
                  rw [getD_of_lt [] hxr] at hr4
                  rw [getD_of_lt [] hxd] at hd4
                  rw [hl1] at hcr hrr
                  rw [hl2] at hcd2 hrd2
                  rw [hr4] at hrr HR1
                  rw [hd4] at hrd2 HD1
                  obtain ⟨gr, or', rfl, hxy, hcy⟩ := hrr.rd.int hli
                  obtain ⟨gd, od, rfl, hxz, hcz⟩ := hrd2.rd.int hli
                  have hey : ent N r j = (N.getD r [])[j] := by unfold ent; rw [getD_of_lt 0 hxy]
                  have hez : (N.getD j [])[j] = xe := by rw [← HEI.out]; unfold ent; rw [getD_of_lt 0 hxz]
                  obtain ⟨y, hy⟩ : ∃ y, y = (N.getD r [])[j] := ⟨_, rfl⟩
                  have hyb : 0 ≤ y ∧ y < p := hy ▸ HR1.out.2 _ (List.getElem_mem hxy)
                  rw [← hy] at hcy hey
                  rw [hez] at hcz
                  have HDR : Hid (dRow p N j r = plusL p (N.getD r []) (N.getD j []) (-y * invF p xe)) := Lib.hid (by unfold dRow; rw [hey, HEI.out])
                  have HM4 := Lib.hid hM4
                  have HRR := Lib.hid hrr
                  have HRD := Lib.hid hrd2
                  clear hy hT4 hr4 hd4 hl1 hl2 hxr hxd hxy hxz hey hez hM4 hrr hrd2
                  have hmy := mul_b (a := y) (b := invF p xe) (by omega) (by omega)
                  have hneg : -y * invF p xe = -(y * invF p xe) := Int.neg_mul _ _
                  have hwy := i64_small (x := -y) (by omega) (by omega)
                  have hmy2 : y * invF p xe ≤ 144 := by
                    have h9 := Int.mul_le_mul (show y ≤ 12 by omega) (show invF p xe ≤ 12 by omega) hiv.1 (by omega : (0 : Int) ≤ 12)
                    omega
                  have hwm := i64_small (x := -y * invF p xe) (by omega) (by omega)
                  have hk1 : -1000 ≤ -y * invF p xe := by omega
                  have hk2 : -y * invF p xe ≤ 1000 := by omega
                  have HK := Lib.hid (And.intro hk1 hk2)
                  clear hneg hmy hmy2 hk1 hk2
                  go_wp2
                  refine wp_obs 31 [[], [], [], [], [], [3, 4], [3, 4, 5], [], [], [7, 8], [7, 8, 9], [], [], [11, 12], [11, 12, 13], [], [11, 12, 13, 14, 15], [11, 12, 13, 14, 15, 16], [11, 12, 13, 14, 15, 16, 17], [], [], [], [20, 21], [20, 21, 22], [], [20, 21, 22, 23, 24], [20, 21, 22, 23, 24, 25], [19, 20, 21, 22, 23, 24, 25, 26], [11, 12, 13, 14, 15, 16, 17, 18, 19, 20, 21, 22, 23, 24, 25, 26, 27], [2, 3, 4, 5, 6, 7, 8, 9, 10, 11, 12, 13, 14, 15, 16, 17, 18, 19, 20, 21, 22, 23, 24, 25, 26, 27, 28], [0, 1], [0, 1, 2, 3, 4, 5, 6, 7, 8, 9, 10, 11, 12, 13, 14, 15, 16, 17, 18, 19, 20, 21, 22, 23, 24, 25, 26, 27, 28, 29, 30]] [VIs (.slice (some ⟨g, 0, none⟩) n c1), VIs (.int .i64 (r)), VIs (.int .i64 (p)), VIs (.slice (some ⟨g, 0, none⟩) n c1), VIs (.int .i64 (r)), VIs (.pointer (some ⟨g, r, none⟩)), VIs (.slice (some ⟨gr, or', none⟩) n cr), VIs (.slice (some ⟨g, 0, none⟩) n c1), VIs (.int .i64 (j)), VIs (.pointer (some ⟨g, j, none⟩)), VIs (.slice (some ⟨gd, od, none⟩) n cd2), VIs (.slice (some ⟨g, 0, none⟩) n c1), VIs (.int .i64 (r)), VIs (.pointer (some ⟨g, r, none⟩)), VIs (.slice (some ⟨gr, or', none⟩) n cr), VIs (.int .i64 (j)), VIs (.pointer (some ⟨gr, or' + j, none⟩)), VIs (.int .i64 (y)), VIs (.int .i64 (-y)), VIs (.int .i64 (p)), VIs (.slice (some ⟨g, 0, none⟩) n c1), VIs (.int .i64 (j)), VIs (.pointer (some ⟨g, j, none⟩)), VIs (.slice (some ⟨gd, od, none⟩) n cd2), VIs (.int .i64 (j)), VIs (.pointer (some ⟨gd, od + j, none⟩)), VIs (.int .i64 (xe)), VIs (.int .i64 (invF p xe)), VIs (.int .i64 (-y * invF p xe)), VSl wr n (plusL p (N.getD r []) (N.getD j []) (-y * invF p xe)), VIs (.pointer (some ⟨g, r, none⟩))] (fun w' => w'.cell? ⟨g, r, none⟩ = some (.slice (some ⟨gr, or', none⟩) n cr) ∧ w'.cell? ⟨g, j, none⟩ = some (.slice (some ⟨gd, od, none⟩) n cd2) ∧ w'.cell? ⟨gr, or' + j, none⟩ = some (.int .i64 y) ∧ w'.cell? ⟨gd, od + j, none⟩ = some (.int .i64 xe) ∧ Below wr.heap.size wr w') (by kernel_rfl) (by kernel_rfl) (fun _ _ h hb => ⟨(hb.cell (World.block_lt_of_cell? _ _ h.1)).trans h.1, (hb.cell (World.block_lt_of_cell? _ _ h.2.1)).trans h.2.1, (hb.cell (World.block_lt_of_cell? _ _ h.2.2.1)).trans h.2.2.1, (hb.cell (World.block_lt_of_cell? _ _ h.2.2.2.1)).trans h.2.2.2.1, h.2.2.2.2.trans (hb.mono h.2.2.2.2.size)⟩) (⟨hcr, hcd2, hcy, hcz, (Below.refl _ _).drew⟩) (fun x => ?_)
                  refine obs_step (Eq.trans (by simp only [zA, zC]; exact rfl) rfl) rfl (fun w' hS hV K hK => ?_) ?_
                  · have q0 := hS.1; have q1 := hS.2.1; have q2 := hS.2.2.1; have q3 := hS.2.2.2.1
                    go_simp
                    exact hK.out _ _ _ rfl rfl rfl (Below.refl _ _)
                  simp only [zD, zE, zF]
                  refine obs_step (Eq.trans (by simp only [zA, zB, zC]; exact rfl) rfl) rfl (fun w' hS hV K hK => ?_) ?_
                  · have q0 := hS.1; have q1 := hS.2.1; have q2 := hS.2.2.1; have q3 := hS.2.2.2.1
                    go_simp
                    exact hK.out _ _ _ rfl rfl rfl (Below.refl _ _)
                  simp only [zD, zE, zF]
                  refine obs_step (Eq.trans (by simp only [zA, zB, zC]; exact rfl) rfl) rfl (fun w' hS hV K hK => ?_) ?_
                  · have q0 := hS.1; have q1 := hS.2.1; have q2 := hS.2.2.1; have q3 := hS.2.2.2.1
                    go_simp
                    exact hK.out _ _ _ rfl rfl rfl (Below.refl _ _)
                  simp only [zD, zE, zF]
                  refine obs_step (Eq.trans (by simp only [zA, zB, zC]; exact rfl) rfl) rfl (fun w' hS hV K hK => ?_) ?_
                  · have q0 := hS.1; have q1 := hS.2.1; have q2 := hS.2.2.1; have q3 := hS.2.2.2.1
                    go_simp
                    exact hK.out _ _ _ rfl rfl rfl (Below.refl _ _)
                  simp only [zD, zE, zF]
                  refine obs_step (Eq.trans (by simp only [zA, zB, zC]; exact rfl) rfl) rfl (fun w' hS hV K hK => ?_) ?_
                  · have q0 := hS.1; have q1 := hS.2.1; have q2 := hS.2.2.1; have q3 := hS.2.2.2.1
                    go_simp
                    exact hK.out _ _ _ rfl rfl rfl (Below.refl _ _)
                  simp only [zD, zE, zF]
                  refine obs_step (Eq.trans (by simp only [zA, zB, zC]; exact rfl) rfl) rfl (fun w' hS hV K hK => ?_) ?_
                  · have e3 : x 3 = (.slice (some ⟨g, 0, none⟩) n c1) := hV 3 (by decide)
                    have e4 : x 4 = (.int .i64 (r)) := hV 4 (by decide)
                    have q0 := hS.1; have q1 := hS.2.1; have q2 := hS.2.2.1; have q3 := hS.2.2.2.1
                    go_simp
                    exact hK.out _ _ _ rfl rfl rfl (Below.refl _ _)
                  simp only [zD, zE, zF]
                  refine obs_step (Eq.trans (by simp only [zA, zB, zC]; exact rfl) rfl) rfl (fun w' hS hV K hK => ?_) ?_
                  · have e5 : x 5 = (.pointer (some ⟨g, r, none⟩)) := hV 5 (by decide)
                    have q0 := hS.1; have q1 := hS.2.1; have q2 := hS.2.2.1; have q3 := hS.2.2.2.1
                    go_simp
                    exact hK.out _ _ _ rfl rfl rfl (Below.refl _ _)
                  simp only [zD, zE, zF]
                  refine obs_step (Eq.trans (by simp only [zA, zB, zC]; exact rfl) rfl) rfl (fun w' hS hV K hK => ?_) ?_
                  · have q0 := hS.1; have q1 := hS.2.1; have q2 := hS.2.2.1; have q3 := hS.2.2.2.1
                    go_simp
                    exact hK.out _ _ _ rfl rfl rfl (Below.refl _ _)
                  simp only [zD, zE, zF]
                  refine obs_step (Eq.trans (by simp only [zA, zB, zC]; exact rfl) rfl) rfl (fun w' hS hV K hK => ?_) ?_
                  · have q0 := hS.1; have q1 := hS.2.1; have q2 := hS.2.2.1; have q3 := hS.2.2.2.1
                    go_simp
                    exact hK.out _ _ _ rfl rfl rfl (Below.refl _ _)
                  simp only [zD, zE, zF]
                  refine obs_step (Eq.trans (by simp only [zA, zB, zC]; exact rfl) rfl) rfl (fun w' hS hV K hK => ?_) ?_
                  · have e7 : x 7 = (.slice (some ⟨g, 0, none⟩) n c1) := hV 7 (by decide)
                    have e8 : x 8 = (.int .i64 (j)) := hV 8 (by decide)
                    have q0 := hS.1; have q1 := hS.2.1; have q2 := hS.2.2.1; have q3 := hS.2.2.2.1
                    go_simp
                    exact hK.out _ _ _ rfl rfl rfl (Below.refl _ _)
                  simp only [zD, zE, zF]
                  refine obs_step (Eq.trans (by simp only [zA, zB, zC]; exact rfl) rfl) rfl (fun w' hS hV K hK => ?_) ?_
                  · have e9 : x 9 = (.pointer (some ⟨g, j, none⟩)) := hV 9 (by decide)
                    have q0 := hS.1; have q1 := hS.2.1; have q2 := hS.2.2.1; have q3 := hS.2.2.2.1
                    go_simp
                    exact hK.out _ _ _ rfl rfl rfl (Below.refl _ _)
                  simp only [zD, zE, zF]
                  refine obs_step (Eq.trans (by simp only [zA, zB, zC]; exact rfl) rfl) rfl (fun w' hS hV K hK => ?_) ?_
                  · have q0 := hS.1; have q1 := hS.2.1; have q2 := hS.2.2.1; have q3 := hS.2.2.2.1
                    go_simp
                    exact hK.out _ _ _ rfl rfl rfl (Below.refl _ _)
                  simp only [zD, zE, zF]
                  refine obs_step (Eq.trans (by simp only [zA, zB, zC]; exact rfl) rfl) rfl (fun w' hS hV K hK => ?_) ?_
                  · have q0 := hS.1; have q1 := hS.2.1; have q2 := hS.2.2.1; have q3 := hS.2.2.2.1
                    go_simp
                    exact hK.out _ _ _ rfl rfl rfl (Below.refl _ _)
                  simp only [zD, zE, zF]
                  refine obs_step (Eq.trans (by simp only [zA, zB, zC]; exact rfl) rfl) rfl (fun w' hS hV K hK => ?_) ?_
                  · have e11 : x 11 = (.slice (some ⟨g, 0, none⟩) n c1) := hV 11 (by decide)
                    have e12 : x 12 = (.int .i64 (r)) := hV 12 (by decide)
                    have q0 := hS.1; have q1 := hS.2.1; have q2 := hS.2.2.1; have q3 := hS.2.2.2.1
                    go_simp
                    exact hK.out _ _ _ rfl rfl rfl (Below.refl _ _)
                  simp only [zD, zE, zF]
                  refine obs_step (Eq.trans (by simp only [zA, zB, zC]; exact rfl) rfl) rfl (fun w' hS hV K hK => ?_) ?_
                  · have e13 : x 13 = (.pointer (some ⟨g, r, none⟩)) := hV 13 (by decide)
                    have q0 := hS.1; have q1 := hS.2.1; have q2 := hS.2.2.1; have q3 := hS.2.2.2.1
                    go_simp
                    exact hK.out _ _ _ rfl rfl rfl (Below.refl _ _)
                  simp only [zD, zE, zF]
                  refine obs_step (Eq.trans (by simp only [zA, zB, zC]; exact rfl) rfl) rfl (fun w' hS hV K hK => ?_) ?_
                  · have q0 := hS.1; have q1 := hS.2.1; have q2 := hS.2.2.1; have q3 := hS.2.2.2.1
                    go_simp
                    exact hK.out _ _ _ rfl rfl rfl (Below.refl _ _)
                  simp only [zD, zE, zF]
                  refine obs_step (Eq.trans (by simp only [zA, zB, zC]; exact rfl) rfl) rfl (fun w' hS hV K hK => ?_) ?_
                  · have e14 : x 14 = (.slice (some ⟨gr, or', none⟩) n cr) := hV 14 (by decide)
                    have e15 : x 15 = (.int .i64 (j)) := hV 15 (by decide)
                    have q0 := hS.1; have q1 := hS.2.1; have q2 := hS.2.2.1; have q3 := hS.2.2.2.1
                    go_simp
                    exact hK.out _ _ _ rfl rfl rfl (Below.refl _ _)
                  simp only [zD, zE, zF]
                  refine obs_step (Eq.trans (by simp only [zA, zB, zC]; exact rfl) rfl) rfl (fun w' hS hV K hK => ?_) ?_
                  · have e16 : x 16 = (.pointer (some ⟨gr, or' + j, none⟩)) := hV 16 (by decide)
                    have q0 := hS.1; have q1 := hS.2.1; have q2 := hS.2.2.1; have q3 := hS.2.2.2.1
                    go_simp
                    exact hK.out _ _ _ rfl rfl rfl (Below.refl _ _)
                  simp only [zD, zE, zF]
                  refine obs_step (Eq.trans (by simp only [zA, zB, zC]; exact rfl) rfl) rfl (fun w' hS hV K hK => ?_) ?_
                  · have e17 : x 17 = (.int .i64 (y)) := hV 17 (by decide)
                    have q0 := hS.1; have q1 := hS.2.1; have q2 := hS.2.2.1; have q3 := hS.2.2.2.1
                    go_simp
                    exact hK.out _ _ _ rfl rfl rfl (Below.refl _ _)
                  simp only [zD, zE, zF]
                  refine obs_step (Eq.trans (by simp only [zA, zB, zC]; exact rfl) rfl) rfl (fun w' hS hV K hK => ?_) ?_
                  · have q0 := hS.1; have q1 := hS.2.1; have q2 := hS.2.2.1; have q3 := hS.2.2.2.1
                    go_simp
                    exact hK.out _ _ _ rfl rfl rfl (Below.refl _ _)
                  simp only [zD, zE, zF]
                  refine obs_step (Eq.trans (by simp only [zA, zB, zC]; exact rfl) rfl) rfl (fun w' hS hV K hK => ?_) ?_
                  · have q0 := hS.1; have q1 := hS.2.1; have q2 := hS.2.2.1; have q3 := hS.2.2.2.1
                    go_simp
                    exact hK.out _ _ _ rfl rfl rfl (Below.refl _ _)
                  simp only [zD, zE, zF]
                  refine obs_step (Eq.trans (by simp only [zA, zB, zC]; exact rfl) rfl) rfl (fun w' hS hV K hK => ?_) ?_
                  · have q0 := hS.1; have q1 := hS.2.1; have q2 := hS.2.2.1; have q3 := hS.2.2.2.1
                    go_simp
                    exact hK.out _ _ _ rfl rfl rfl (Below.refl _ _)
                  simp only [zD, zE, zF]
                  refine obs_step (Eq.trans (by simp only [zA, zB, zC]; exact rfl) rfl) rfl (fun w' hS hV K hK => ?_) ?_
                  · have e20 : x 20 = (.slice (some ⟨g, 0, none⟩) n c1) := hV 20 (by decide)
                    have e21 : x 21 = (.int .i64 (j)) := hV 21 (by decide)
                    have q0 := hS.1; have q1 := hS.2.1; have q2 := hS.2.2.1; have q3 := hS.2.2.2.1
                    go_simp
                    exact hK.out _ _ _ rfl rfl rfl (Below.refl _ _)
                  simp only [zD, zE, zF]
                  refine obs_step (Eq.trans (by simp only [zA, zB, zC]; exact rfl) rfl) rfl (fun w' hS hV K hK => ?_) ?_
                  · have e22 : x 22 = (.pointer (some ⟨g, j, none⟩)) := hV 22 (by decide)
                    have q0 := hS.1; have q1 := hS.2.1; have q2 := hS.2.2.1; have q3 := hS.2.2.2.1
                    go_simp
                    exact hK.out _ _ _ rfl rfl rfl (Below.refl _ _)
                  simp only [zD, zE, zF]
                  refine obs_step (Eq.trans (by simp only [zA, zB, zC]; exact rfl) rfl) rfl (fun w' hS hV K hK => ?_) ?_
                  · have q0 := hS.1; have q1 := hS.2.1; have q2 := hS.2.2.1; have q3 := hS.2.2.2.1
                    go_simp
                    exact hK.out _ _ _ rfl rfl rfl (Below.refl _ _)
                  simp only [zD, zE, zF]
                  refine obs_step (Eq.trans (by simp only [zA, zB, zC]; exact rfl) rfl) rfl (fun w' hS hV K hK => ?_) ?_
                  · have e23 : x 23 = (.slice (some ⟨gd, od, none⟩) n cd2) := hV 23 (by decide)
                    have e24 : x 24 = (.int .i64 (j)) := hV 24 (by decide)
                    have q0 := hS.1; have q1 := hS.2.1; have q2 := hS.2.2.1; have q3 := hS.2.2.2.1
                    go_simp
                    exact hK.out _ _ _ rfl rfl rfl (Below.refl _ _)
                  simp only [zD, zE, zF]
                  refine obs_step (Eq.trans (by simp only [zA, zB, zC]; exact rfl) rfl) rfl (fun w' hS hV K hK => ?_) ?_
                  · have e25 : x 25 = (.pointer (some ⟨gd, od + j, none⟩)) := hV 25 (by decide)
                    have q0 := hS.1; have q1 := hS.2.1; have q2 := hS.2.2.1; have q3 := hS.2.2.2.1
                    go_simp
                    exact hK.out _ _ _ rfl rfl rfl (Below.refl _ _)
                  simp only [zD, zE, zF]
                  refine obs_step (Eq.trans (by simp only [zA, zB, zC]; exact rfl) rfl) rfl (fun w' hS hV K hK => ?_) ?_
                  · have e19 : x 19 = (.int .i64 (p)) := hV 19 (by decide)
                    have e26 : x 26 = (.int .i64 (xe)) := hV 26 (by decide)
                    have q0 := hS.1; have q1 := hS.2.1; have q2 := hS.2.2.1; have q3 := hS.2.2.2.1
                    go_simp
                    refine (inv_any p xe _ hp hp2 hx1.1 hx1.2).mono ?_
                    rintro e v1 ⟨rfl, rfl⟩
                    exact hK.out _ _ _ rfl rfl rfl (Below.refl _ _)
                  simp only [zD, zE, zF]
                  refine obs_step (Eq.trans (by simp only [zA, zB, zC]; exact rfl) rfl) rfl (fun w' hS hV K hK => ?_) ?_
                  · have e18 : x 18 = (.int .i64 (-y)) := hV 18 (by decide)
                    have e27 : x 27 = (.int .i64 (invF p xe)) := hV 27 (by decide)
                    have q0 := hS.1; have q1 := hS.2.1; have q2 := hS.2.2.1; have q3 := hS.2.2.2.1
                    go_simp
                    exact hK.out _ _ _ rfl rfl rfl (Below.refl _ _)
                  simp only [zD, zE, zF]
                  refine obs_step (Eq.trans (by simp only [zA, zB, zC]; exact rfl) rfl) rfl (fun w' hS hV K hK => ?_) ?_
                  · have e2 : x 2 = (.int .i64 (p)) := hV 2 (by decide)
                    have e6 : x 6 = (.slice (some ⟨gr, or', none⟩) n cr) := hV 6 (by decide)
                    have e10 : x 10 = (.slice (some ⟨gd, od, none⟩) n cd2) := hV 10 (by decide)
                    have e28 : x 28 = (.int .i64 (-y * invF p xe)) := hV 28 (by decide)
                    have q0 := hS.1; have q1 := hS.2.1; have q2 := hS.2.2.1; have q3 := hS.2.2.2.1
                    go_simp
                    refine (plus_any p _ n _ _ n _ (-y * invF p xe) _ _ _ hp hp2 hn (Nat.le_refl _) (HRR.out.rd.below hS.2.2.2.2) HR1.out.2 (HRD.out.rd.below hS.2.2.2.2) HD1.out.2 HK.out.1 HK.out.2).mono ?_
                    rintro e v1 ⟨A2, c2, rfl, hM⟩
                    exact hK.out _ _ _ rfl rfl ⟨_, _, rfl, hM.after hS.2.2.2.2⟩ hM.b
                  simp only [zD, zE, zF]
                  refine obs_step (Eq.trans (by simp only [zA, zB, zC]; exact rfl) rfl) rfl (fun w' hS hV K hK => ?_) ?_
                  · have e0 : x 0 = (.slice (some ⟨g, 0, none⟩) n c1) := hV 0 (by decide)
                    have e1 : x 1 = (.int .i64 (r)) := hV 1 (by decide)
                    have q0 := hS.1; have q1 := hS.2.1; have q2 := hS.2.2.1; have q3 := hS.2.2.2.1
                    go_simp
                    exact hK.out _ _ _ rfl rfl rfl (Below.refl _ _)
                  simp only [zD, zE, zF]
                  refine fun w' hS hV => ?_
                  have e0 : x 0 = (.slice (some ⟨g, 0, none⟩) n c1) := hV 0 (by decide)
                  have e1 : x 1 = (.int .i64 (r)) := hV 1 (by decide)
                  have e2 : x 2 = (.int .i64 (p)) := hV 2 (by decide)
                  have e3 : x 3 = (.slice (some ⟨g, 0, none⟩) n c1) := hV 3 (by decide)
                  have e4 : x 4 = (.int .i64 (r)) := hV 4 (by decide)
                  have e5 : x 5 = (.pointer (some ⟨g, r, none⟩)) := hV 5 (by decide)
                  have e6 : x 6 = (.slice (some ⟨gr, or', none⟩) n cr) := hV 6 (by decide)
                  have e7 : x 7 = (.slice (some ⟨g, 0, none⟩) n c1) := hV 7 (by decide)
                  have e8 : x 8 = (.int .i64 (j)) := hV 8 (by decide)
                  have e9 : x 9 = (.pointer (some ⟨g, j, none⟩)) := hV 9 (by decide)
                  have e10 : x 10 = (.slice (some ⟨gd, od, none⟩) n cd2) := hV 10 (by decide)
                  have e11 : x 11 = (.slice (some ⟨g, 0, none⟩) n c1) := hV 11 (by decide)
                  have e12 : x 12 = (.int .i64 (r)) := hV 12 (by decide)
                  have e13 : x 13 = (.pointer (some ⟨g, r, none⟩)) := hV 13 (by decide)
                  have e14 : x 14 = (.slice (some ⟨gr, or', none⟩) n cr) := hV 14 (by decide)
                  have e15 : x 15 = (.int .i64 (j)) := hV 15 (by decide)
                  have e16 : x 16 = (.pointer (some ⟨gr, or' + j, none⟩)) := hV 16 (by decide)
                  have e17 : x 17 = (.int .i64 (y)) := hV 17 (by decide)
                  have e18 : x 18 = (.int .i64 (-y)) := hV 18 (by decide)
                  have e19 : x 19 = (.int .i64 (p)) := hV 19 (by decide)
                  have e20 : x 20 = (.slice (some ⟨g, 0, none⟩) n c1) := hV 20 (by decide)
                  have e21 : x 21 = (.int .i64 (j)) := hV 21 (by decide)
                  have e22 : x 22 = (.pointer (some ⟨g, j, none⟩)) := hV 22 (by decide)
                  have e23 : x 23 = (.slice (some ⟨gd, od, none⟩) n cd2) := hV 23 (by decide)
                  have e24 : x 24 = (.int .i64 (j)) := hV 24 (by decide)
                  have e25 : x 25 = (.pointer (some ⟨gd, od + j, none⟩)) := hV 25 (by decide)
                  have e26 : x 26 = (.int .i64 (xe)) := hV 26 (by decide)
                  have e27 : x 27 = (.int .i64 (invF p xe)) := hV 27 (by decide)
                  have e28 : x 28 = (.int .i64 (-y * invF p xe)) := hV 28 (by decide)
                  obtain ⟨A29, c29, e29, h29⟩ := hV 29 (by decide)
                  have e30 : x 30 = (.pointer (some ⟨g, r, none⟩)) := hV 30 (by decide)
                  simp only [e0, e1, e2, e3, e4, e5, e6, e7, e8, e9, e10, e11, e12, e13, e14, e15, e16, e17, e18, e19, e20, e21, e22, e23, e24, e25, e26, e27, e28, e29, e30]
                  clear e0 e1 e2 e3 e4 e5 e6 e7 e8 e9 e10 e11 e12 e13 e14 e15 e16 e17 e18 e19 e20 e21 e22 e23 e24 e25 e26 e27 e28 e29 e30
                  have hbn := hS.2.2.2.2
                  have q0 := hS.1
                  have ff := (HM4.out.below hbn).frozen_ r
                  refine any_one (j := 31) (by kernel_rfl) (Eq.trans (by simp only [zA, zB, zC]; exact rfl) rfl) (fun K hK => ?_)
                  go_simp
                  refine hK.out _ _ (wpAny_done (by kernel_rfl) ?_ _)
                  have hM5 := HM4.out.setRow h29 r
                  have hM6 : MkII w (w'.setCell ⟨g, r, none⟩ (.slice A29 n c29)) (some ⟨g, 0, none⟩) n c1 (dClr p N j (r + 1)) := by
                    rw [dClr_succ (by rw [HTS.out.2]; exact hlr) (by omega), HDR.out]
                    exact hM5
                  clear q0 ff hM5 h29 hbn hS hV
                  go_wp2
                  go_roundw
                  case rel => exact ⟨r + 1, by omega, by omega, by go_num, hM6⟩
                  case measure => simp [intOf]; omega
                · obtain rfl : r = n := by omega
                  have HM4 := Lib.hid hM4
                  clear hM4
                  go_wp2
                  go_roundw
                  case rel => exact ⟨j + 1, o2 * xe % p, dClr p N j r, rfl, by go_num, by omega, HOX.out, HNXT, Lib.hid ⟨dClr_tab (by omega) HTS.out.1 _ _, by rw [dClr_len, HTS.out.2]⟩, HM4.out⟩
                  case measure => simp [intOf]; omega
            · skip
              have t2 : ((j : Int) != (i : Int)) = true := by simp; omega
              have t3 : decide ((i : Int) < (j : Int)) = true := by simp; omega
              obtain ⟨g0, e0, hxd, Ad, cd, hcd, hrd⟩ := HM.out.at_ hli
              injection e0 with e0; injection e0 with e0 _ _; subst e0
              have hld2 : L[i].length = n := (HT1.out.1 L[i] (List.getElem_mem hxd)).1
              rw [hld2] at hcd hrd
              have fd := HM.out.frozen_ i
              have fj := HM.out.frozen_ j
              have HSW := Lib.hid (HM.out.swap hli hlj hcd hcj)
              obtain ⟨uj, hcs⟩ := HM.out.cellSet i (A1 := some ⟨gj, oj, none⟩) (m := n) (c1 := cj) hlj
              have hwn := i64_small (x := -out) (by omega) (by omega)
              have hnum0 := fun w' => num_any p (-out) w' (by omega) hp2 (by omega) (by omega)
              clear hrj hrd hld2 hxd
              go_wp2
              go_region
              obtain ⟨w2, hw2⟩ : ∃ W, W = ((wr.setCell ⟨g, i, none⟩ (.slice (some ⟨gj, oj, none⟩) n cj)).setCell ⟨g, j, none⟩ (.slice Ad n cd)).drew := ⟨_, rfl⟩
              have hM2 : MkII w w2 (some ⟨g, 0, none⟩) n c1 (swapL L i j) := by rw [hw2]; exact HSW.out.below ((Below.refl _ _).drew)
              rw [← hw2]
              clear hw2 HSW hcs fd fj hcd hcj hce
              go_wp2_with fail
              refine (hnum0 _).mono ?_
              rintro e w3 ⟨rfl, rfl⟩
              clear hnum0
              have HM2 := Lib.hid hM2
              clear hM2
              obtain ⟨N, hN⟩ : ∃ N, N = swapL L i j := ⟨_, rfl⟩
              rw [← hN] at HM2 HTS HEI HNX HROW
              obtain ⟨o2, ho2⟩ : ∃ o2, o2 = (-out) % p := ⟨_, rfl⟩
              have HO2 : Hid (0 ≤ o2 ∧ o2 < p) := Lib.hid (by rw [ho2]; exact ⟨Int.emod_nonneg _ (by omega), Int.emod_lt_of_pos _ (by omega)⟩)
              have HNXT : Hid (detL p M = detF p (n - (i + 1)) (dClr p N i n) (i + 1) (o2 * xe % p)) := Lib.hid (by rw [HNX.out, if_neg hij, ho2])
              rw [← ho2]
              clear hN ho2 HNX
              obtain ⟨g0, e0, hxs, As, cs, hcs2, hrs⟩ := HM2.out.at_ hli
              injection e0 with e0; injection e0 with e0 _ _; subst e0
              have hrow : N[i] = R := by have := HROW.out; rw [List.getElem?_eq_getElem hxs] at this; exact Option.some.inj this
              rw [hrow] at hcs2 hrs
              have hRl := HRJ.out.1
              rw [hRl] at hcs2 hrs
              obtain ⟨gs, os, rfl, hxe2, hce2⟩ := hrs.rd.int hli
              rw [HXE.out hxe2] at hce2
              clear hrs hrow hxe2 hxs hRl
              have hob2 := HO2.out
              have hmb := mul_b (a := o2) (b := xe) (by omega) (by omega)
              have hw1 := i64_small (x := o2 * xe) (by omega) (by omega)
              have hnum := fun w' => num_any p (o2 * xe) w' (by omega) hp2 (by omega) (by omega)
              go_wp2_with fail
              refine (hnum _).mono ?_
              rintro e w5 ⟨rfl, rfl⟩
              clear hnum hce2 hcs2
              have HM3 := Lib.hid (show MkII w w2 (some ⟨g, 0, none⟩) n c1 (dClr p N i (i + 1)) by rw [dClr_start]; exact HM2.out)
              have HOX : Hid (0 ≤ o2 * xe % p ∧ o2 * xe % p < p) := Lib.hid ⟨Int.emod_nonneg _ (by omega), Int.emod_lt_of_pos _ (by omega)⟩
              clear HM2 HM
              go_wp2
              go_loopw [9] (fun q w4 => ∃ r : Nat, i + 1 ≤ r ∧ r ≤ n ∧ q = .int .i64 r ∧ MkII w w4 (some ⟨g, 0, none⟩) n c1 (dClr p N i r)) (fun q _ => n - (intOf q).toNat)
              case atStart => exact ⟨i + 1, by omega, by omega, by go_num, HM3.out⟩
              case round =>
                obtain ⟨r, hr1, hr2, rfl, hM4⟩ := hrel
                clear HM3
                by_cases hlr : r < n
                · have hT4 : Tab p n (dClr p N i r) := dClr_tab (by omega) HTS.out.1 i r
                  have hr4 : (dClr p N i r).getD r [] = N.getD r [] := by rw [dClr_getD (by rw [HTS.out.2]; exact hlr), if_neg (by omega)]
                  have hd4 : (dClr p N i r).getD i [] = N.getD i [] := by rw [dClr_getD (by rw [HTS.out.2]; exact hli), if_neg (by omega)]
                  obtain ⟨g0, e0, hxr, Ar, cr, hcr, hrr⟩ := hM4.at_ hlr
                  injection e0 with e0; injection e0 with e0 _ _; subst e0
                  obtain ⟨g0, e0, hxd, Ad2, cd2, hcd2, hrd2⟩ := hM4.at_ hli
                  injection e0 with e0; injection e0 with e0 _ _; subst e0
                  have HR1 := Lib.hid (hT4 _ (List.getElem_mem hxr))
                  have HD1 := Lib.hid (hT4 _ (List.getElem_mem hxd))
                  have hl1 := HR1.out.1
                  have hl2 := HD1.out.1
                  rw [getD_of_lt [] hxr] at hr4
                  rw [getD_of_lt [] hxd] at hd4
                  rw [hl1] at hcr hrr
                  rw [hl2] at hcd2 hrd2
                  rw [hr4] at hrr HR1
                  rw [hd4] at hrd2 HD1
                  obtain ⟨gr, or', rfl, hxy, hcy⟩ := hrr.rd.int hli
                  obtain ⟨gd, od, rfl, hxz, hcz⟩ := hrd2.rd.int hli
                  have hey : ent N r i = (N.getD r [])[i] := by unfold ent; rw [getD_of_lt 0 hxy]
                  have hez : (N.getD i [])[i] = xe := by rw [← HEI.out]; unfold ent; rw [getD_of_lt 0 hxz]
                  obtain ⟨y, hy⟩ : ∃ y, y = (N.getD r [])[i] := ⟨_, rfl⟩
                  have hyb : 0 ≤ y ∧ y < p := hy ▸ HR1.out.2 _ (List.getElem_mem hxy)
                  rw [← hy] at hcy hey
                  rw [hez] at hcz
                  have HDR : Hid (dRow p N i r = plusL p (N.getD r []) (N.getD i []) (-y * invF p xe)) := Lib.hid (by unfold dRow; rw [hey, HEI.out])
                  have HM4 := Lib.hid hM4
                  have HRR := Lib.hid hrr
                  have HRD := Lib.hid hrd2
                  clear hy hT4 hr4 hd4 hl1 hl2 hxr hxd hxy hxz hey hez hM4 hrr hrd2
                  have hmy := mul_b (a := y) (b := invF p xe) (by omega) (by omega)
                  have hneg : -y * invF p xe = -(y * invF p xe) := Int.neg_mul _ _
                  have hwy := i64_small (x := -y) (by omega) (by omega)
                  have hmy2 : y * invF p xe ≤ 144 := by
                    have h9 := Int.mul_le_mul (show y ≤ 12 by omega) (show invF p xe ≤ 12 by omega) hiv.1 (by omega : (0 : Int) ≤ 12)
                    omega
                  have hwm := i64_small (x := -y * invF p xe) (by omega) (by omega)
                  have hk1 : -1000 ≤ -y * invF p xe := by omega
                  have hk2 : -y * invF p xe ≤ 1000 := by omega
                  have HK := Lib.hid (And.intro hk1 hk2)
                  clear hneg hmy hmy2 hk1 hk2
                  go_wp2
                  refine wp_obs 31 [[], [], [], [], [], [3, 4], [3, 4, 5], [], [], [7, 8], [7, 8, 9], [], [], [11, 12], [11, 12, 13], [], [11, 12, 13, 14, 15], [11, 12, 13, 14, 15, 16], [11, 12, 13, 14, 15, 16, 17], [], [], [], [20, 21], [20, 21, 22], [], [20, 21, 22, 23, 24], [20, 21, 22, 23, 24, 25], [19, 20, 21, 22, 23, 24, 25, 26], [11, 12, 13, 14, 15, 16, 17, 18, 19, 20, 21, 22, 23, 24, 25, 26, 27], [2, 3, 4, 5, 6, 7, 8, 9, 10, 11, 12, 13, 14, 15, 16, 17, 18, 19, 20, 21, 22, 23, 24, 25, 26, 27, 28], [0, 1], [0, 1, 2, 3, 4, 5, 6, 7, 8, 9, 10, 11, 12, 13, 14, 15, 16, 17, 18, 19, 20, 21, 22, 23, 24, 25, 26, 27, 28, 29, 30]] [VIs (.slice (some ⟨g, 0, none⟩) n c1), VIs (.int .i64 (r)), VIs (.int .i64 (p)), VIs (.slice (some ⟨g, 0, none⟩) n c1), VIs (.int .i64 (r)), VIs (.pointer (some ⟨g, r, none⟩)), VIs (.slice (some ⟨gr, or', none⟩) n cr), VIs (.slice (some ⟨g, 0, none⟩) n c1), VIs (.int .i64 (i)), VIs (.pointer (some ⟨g, i, none⟩)), VIs (.slice (some ⟨gd, od, none⟩) n cd2), VIs (.slice (some ⟨g, 0, none⟩) n c1), VIs (.int .i64 (r)), VIs (.pointer (some ⟨g, r, none⟩)), VIs (.slice (some ⟨gr, or', none⟩) n cr), VIs (.int .i64 (i)), VIs (.pointer (some ⟨gr, or' + i, none⟩)), VIs (.int .i64 (y)), VIs (.int .i64 (-y)), VIs (.int .i64 (p)), VIs (.slice (some ⟨g, 0, none⟩) n c1), VIs (.int .i64 (i)), VIs (.pointer (some ⟨g, i, none⟩)), VIs (.slice (some ⟨gd, od, none⟩) n cd2), VIs (.int .i64 (i)), VIs (.pointer (some ⟨gd, od + i, none⟩)), VIs (.int .i64 (xe)), VIs (.int .i64 (invF p xe)), VIs (.int .i64 (-y * invF p xe)), VSl wr n (plusL p (N.getD r []) (N.getD i []) (-y * invF p xe)), VIs (.pointer (some ⟨g, r, none⟩))] (fun w' => w'.cell? ⟨g, r, none⟩ = some (.slice (some ⟨gr, or', none⟩) n cr) ∧ w'.cell? ⟨g, i, none⟩ = some (.slice (some ⟨gd, od, none⟩) n cd2) ∧ w'.cell? ⟨gr, or' + i, none⟩ = some (.int .i64 y) ∧ w'.cell? ⟨gd, od + i, none⟩ = some (.int .i64 xe) ∧ Below wr.heap.size wr w') (by kernel_rfl) (by kernel_rfl) (fun _ _ h hb => ⟨(hb.cell (World.block_lt_of_cell? _ _ h.1)).trans h.1, (hb.cell (World.block_lt_of_cell? _ _ h.2.1)).trans h.2.1, (hb.cell (World.block_lt_of_cell? _ _ h.2.2.1)).trans h.2.2.1, (hb.cell (World.block_lt_of_cell? _ _ h.2.2.2.1)).trans h.2.2.2.1, h.2.2.2.2.trans (hb.mono h.2.2.2.2.size)⟩) (⟨hcr, hcd2, hcy, hcz, (Below.refl _ _).drew⟩) (fun x => ?_)
                  refine obs_step (Eq.trans (by simp only [zA, zC]; exact rfl) rfl) rfl (fun w' hS hV K hK => ?_) ?_
                  · have q0 := hS.1; have q1 := hS.2.1; have q2 := hS.2.2.1; have q3 := hS.2.2.2.1
                    go_simp
                    exact hK.out _ _ _ rfl rfl rfl (Below.refl _ _)
                  simp only [zD, zE, zF]
                  refine obs_step (Eq.trans (by simp only [zA, zB, zC]; exact rfl) rfl) rfl (fun w' hS hV K hK => ?_) ?_
                  · have q0 := hS.1; have q1 := hS.2.1; have q2 := hS.2.2.1; have q3 := hS.2.2.2.1
                    go_simp
                    exact hK.out _ _ _ rfl rfl rfl (Below.refl _ _)
                  simp only [zD, zE, zF]
                  refine obs_step (Eq.trans (by simp only [zA, zB, zC]; exact rfl) rfl) rfl (fun w' hS hV K hK => ?_) ?_
                  · have q0 := hS.1; have q1 := hS.2.1; have q2 := hS.2.2.1; have q3 := hS.2.2.2.1
                    go_simp
                    exact hK.out _ _ _ rfl rfl rfl (Below.refl _ _)
                  simp only [zD, zE, zF]
                  refine obs_step (Eq.trans (by simp only [zA, zB, zC]; exact rfl) rfl) rfl (fun w' hS hV K hK => ?_) ?_
                  · have q0 := hS.1; have q1 := hS.2.1; have q2 := hS.2.2.1; have q3 := hS.2.2.2.1
                    go_simp
                    exact hK.out _ _ _ rfl rfl rfl (Below.refl _ _)
                  simp only [zD, zE, zF]
                  refine obs_step (Eq.trans (by simp only [zA, zB, zC]; exact rfl) rfl) rfl (fun w' hS hV K hK => ?_) ?_
                  · have q0 := hS.1; have q1 := hS.2.1; have q2 := hS.2.2.1; have q3 := hS.2.2.2.1
                    go_simp
                    exact hK.out _ _ _ rfl rfl rfl (Below.refl _ _)
                  simp only [zD, zE, zF]
                  refine obs_step (Eq.trans (by simp only [zA, zB, zC]; exact rfl) rfl) rfl (fun w' hS hV K hK => ?_) ?_
                  · have e3 : x 3 = (.slice (some ⟨g, 0, none⟩) n c1) := hV 3 (by decide)
                    have e4 : x 4 = (.int .i64 (r)) := hV 4 (by decide)
                    have q0 := hS.1; have q1 := hS.2.1; have q2 := hS.2.2.1; have q3 := hS.2.2.2.1
                    go_simp
                    exact hK.out _ _ _ rfl rfl rfl (Below.refl _ _)
                  simp only [zD, zE, zF]
                  refine obs_step (Eq.trans (by simp only [zA, zB, zC]; exact rfl) rfl) rfl (fun w' hS hV K hK => ?_) ?_
                  · have e5 : x 5 = (.pointer (some ⟨g, r, none⟩)) := hV 5 (by decide)
                    have q0 := hS.1; have q1 := hS.2.1; have q2 := hS.2.2.1; have q3 := hS.2.2.2.1
                    go_simp
                    exact hK.out _ _ _ rfl rfl rfl (Below.refl _ _)
                  simp only [zD, zE, zF]
                  refine obs_step (Eq.trans (by simp only [zA, zB, zC]; exact rfl) rfl) rfl (fun w' hS hV K hK => ?_) ?_
                  · have q0 := hS.1; have q1 := hS.2.1; have q2 := hS.2.2.1; have q3 := hS.2.2.2.1
                    go_simp
                    exact hK.out _ _ _ rfl rfl rfl (Below.refl _ _)
                  simp only [zD, zE, zF]
                  refine obs_step (Eq.trans (by simp only [zA, zB, zC]; exact rfl) rfl) rfl (fun w' hS hV K hK => ?_) ?_
                  · have q0 := hS.1; have q1 := hS.2.1; have q2 := hS.2.2.1; have q3 := hS.2.2.2.1
                    go_simp
                    exact hK.out _ _ _ rfl rfl rfl (Below.refl _ _)
                  simp only [zD, zE, zF]
                  refine obs_step (Eq.trans (by simp only [zA, zB, zC]; exact rfl) rfl) rfl (fun w' hS hV K hK => ?_) ?_
                  · have e7 : x 7 = (.slice (some ⟨g, 0, none⟩) n c1) := hV 7 (by decide)
                    have e8 : x 8 = (.int .i64 (i)) := hV 8 (by decide)
                    have q0 := hS.1; have q1 := hS.2.1; have q2 := hS.2.2.1; have q3 := hS.2.2.2.1
                    go_simp
                    exact hK.out _ _ _ rfl rfl rfl (Below.refl _ _)
                  simp only [zD, zE, zF]
                  refine obs_step (Eq.trans (by simp only [zA, zB, zC]; exact rfl) rfl) rfl (fun w' hS hV K hK => ?_) ?_
                  · have e9 : x 9 = (.pointer (some ⟨g, i, none⟩)) := hV 9 (by decide)
                    have q0 := hS.1; have q1 := hS.2.1; have q2 := hS.2.2.1; have q3 := hS.2.2.2.1
                    go_simp
                    exact hK.out _ _ _ rfl rfl rfl (Below.refl _ _)
                  simp only [zD, zE, zF]
                  refine obs_step (Eq.trans (by simp only [zA, zB, zC]; exact rfl) rfl) rfl (fun w' hS hV K hK => ?_) ?_
                  · have q0 := hS.1; have q1 := hS.2.1; have q2 := hS.2.2.1; have q3 := hS.2.2.2.1
                    go_simp
                    exact hK.out _ _ _ rfl rfl rfl (Below.refl _ _)
                  simp only [zD, zE, zF]
                  refine obs_step (Eq.trans (by simp only [zA, zB, zC]; exact rfl) rfl) rfl (fun w' hS hV K hK => ?_) ?_
                  · have q0 := hS.1; have q1 := hS.2.1; have q2 := hS.2.2.1; have q3 := hS.2.2.2.1
                    go_simp
                    exact hK.out _ _ _ rfl rfl rfl (Below.refl _ _)
                  simp only [zD, zE, zF]
                  refine obs_step (Eq.trans (by simp only [zA, zB, zC]; exact rfl) rfl) rfl (fun w' hS hV K hK => ?_) ?_
                  · have e11 : x 11 = (.slice (some ⟨g, 0, none⟩) n c1) := hV 11 (by decide)
                    have e12 : x 12 = (.int .i64 (r)) := hV 12 (by decide)
                    have q0 := hS.1; have q1 := hS.2.1; have q2 := hS.2.2.1; have q3 := hS.2.2.2.1
                    go_simp
                    exact hK.out _ _ _ rfl rfl rfl (Below.refl _ _)
                  simp only [zD, zE, zF]
                  refine obs_step (Eq.trans (by simp only [zA, zB, zC]; exact rfl) rfl) rfl (fun w' hS hV K hK => ?_) ?_
                  · have e13 : x 13 = (.pointer (some ⟨g, r, none⟩)) := hV 13 (by decide)
                    have q0 := hS.1; have q1 := hS.2.1; have q2 := hS.2.2.1; have q3 := hS.2.2.2.1
                    go_simp
                    exact hK.out _ _ _ rfl rfl rfl (Below.refl _ _)
                  simp only [zD, zE, zF]
                  refine obs_step (Eq.trans (by simp only [zA, zB, zC]; exact rfl) rfl) rfl (fun w' hS hV K hK => ?_) ?_
                  · have q0 := hS.1; have q1 := hS.2.1; have q2 := hS.2.2.1; have q3 := hS.2.2.2.1
                    go_simp
                    exact hK.out _ _ _ rfl rfl rfl (Below.refl _ _)
                  simp only [zD, zE, zF]
                  refine obs_step (Eq.trans (by simp only [zA, zB, zC]; exact rfl) rfl) rfl (fun w' hS hV K hK => ?_) ?_
                  · have e14 : x 14 = (.slice (some ⟨gr, or', none⟩) n cr) := hV 14 (by decide)
                    have e15 : x 15 = (.int .i64 (i)) := hV 15 (by decide)
                    have q0 := hS.1; have q1 := hS.2.1; have q2 := hS.2.2.1; have q3 := hS.2.2.2.1
                    go_simp
                    exact hK.out _ _ _ rfl rfl rfl (Below.refl _ _)
                  simp only [zD, zE, zF]
                  refine obs_step (Eq.trans (by simp only [zA, zB, zC]; exact rfl) rfl) rfl (fun w' hS hV K hK => ?_) ?_
                  · have e16 : x 16 = (.pointer (some ⟨gr, or' + i, none⟩)) := hV 16 (by decide)
                    have q0 := hS.1; have q1 := hS.2.1; have q2 := hS.2.2.1; have q3 := hS.2.2.2.1
                    go_simp
                    exact hK.out _ _ _ rfl rfl rfl (Below.refl _ _)
                  simp only [zD, zE, zF]
                  refine obs_step (Eq.trans (by simp only [zA, zB, zC]; exact rfl) rfl) rfl (fun w' hS hV K hK => ?_) ?_
                  · have e17 : x 17 = (.int .i64 (y)) := hV 17 (by decide)
                    have q0 := hS.1; have q1 := hS.2.1; have q2 := hS.2.2.1; have q3 := hS.2.2.2.1
                    go_simp
                    exact hK.out _ _ _ rfl rfl rfl (Below.refl _ _)
                  simp only [zD, zE, zF]
                  refine obs_step (Eq.trans (by simp only [zA, zB, zC]; exact rfl) rfl) rfl (fun w' hS hV K hK => ?_) ?_
                  · have q0 := hS.1; have q1 := hS.2.1; have q2 := hS.2.2.1; have q3 := hS.2.2.2.1
                    go_simp
                    exact hK.out _ _ _ rfl rfl rfl (Below.refl _ _)
                  simp only [zD, zE, zF]
                  refine obs_step (Eq.trans (by simp only [zA, zB, zC]; exact rfl) rfl) rfl (fun w' hS hV K hK => ?_) ?_
                  · have q0 := hS.1; have q1 := hS.2.1; have q2 := hS.2.2.1; have q3 := hS.2.2.2.1
                    go_simp
                    exact hK.out _ _ _ rfl rfl rfl (Below.refl _ _)
                  simp only [zD, zE, zF]
                  refine obs_step (Eq.trans (by simp only [zA, zB, zC]; exact rfl) rfl) rfl (fun w' hS hV K hK => ?_) ?_
                  · have q0 := hS.1; have q1 := hS.2.1; have q2 := hS.2.2.1; have q3 := hS.2.2.2.1
                    go_simp
                    exact hK.out _ _ _ rfl rfl rfl (Below.refl _ _)
                  simp only [zD, zE, zF]
                  refine obs_step (Eq.trans (by simp only [zA, zB, zC]; exact rfl) rfl) rfl (fun w' hS hV K hK => ?_) ?_
                  · have e20 : x 20 = (.slice (some ⟨g, 0, none⟩) n c1) := hV 20 (by decide)
                    have e21 : x 21 = (.int .i64 (i)) := hV 21 (by decide)
                    have q0 := hS.1; have q1 := hS.2.1; have q2 := hS.2.2.1; have q3 := hS.2.2.2.1
                    go_simp
                    exact hK.out _ _ _ rfl rfl rfl (Below.refl _ _)
                  simp only [zD, zE, zF]
                  refine obs_step (Eq.trans (by simp only [zA, zB, zC]; exact rfl) rfl) rfl (fun w' hS hV K hK => ?_) ?_
                  · have e22 : x 22 = (.pointer (some ⟨g, i, none⟩)) := hV 22 (by decide)
                    have q0 := hS.1; have q1 := hS.2.1; have q2 := hS.2.2.1; have q3 := hS.2.2.2.1
                    go_simp
                    exact hK.out _ _ _ rfl rfl rfl (Below.refl _ _)
                  simp only [zD, zE, zF]
                  refine obs_step (Eq.trans (by simp only [zA, zB, zC]; exact rfl) rfl) rfl (fun w' hS hV K hK => ?_) ?_
                  · have q0 := hS.1; have q1 := hS.2.1; have q2 := hS.2.2.1; have q3 := hS.2.2.2.1
                    go_simp
                    exact hK.out _ _ _ rfl rfl rfl (Below.refl _ _)
                  simp only [zD, zE, zF]
                  refine obs_step (Eq.trans (by simp only [zA, zB, zC]; exact rfl) rfl) rfl (fun w' hS hV K hK => ?_) ?_
                  · have e23 : x 23 = (.slice (some ⟨gd, od, none⟩) n cd2) := hV 23 (by decide)
                    have e24 : x 24 = (.int .i64 (i)) := hV 24 (by decide)
                    have q0 := hS.1; have q1 := hS.2.1; have q2 := hS.2.2.1; have q3 := hS.2.2.2.1
                    go_simp
                    exact hK.out _ _ _ rfl rfl rfl (Below.refl _ _)
                  simp only [zD, zE, zF]
                  refine obs_step (Eq.trans (by simp only [zA, zB, zC]; exact rfl) rfl) rfl (fun w' hS hV K hK => ?_) ?_
                  · have e25 : x 25 = (.pointer (some ⟨gd, od + i, none⟩)) := hV 25 (by decide)
                    have q0 := hS.1; have q1 := hS.2.1; have q2 := hS.2.2.1; have q3 := hS.2.2.2.1
                    go_simp
                    exact hK.out _ _ _ rfl rfl rfl (Below.refl _ _)
                  simp only [zD, zE, zF]
                  refine obs_step (Eq.trans (by simp only [zA, zB, zC]; exact rfl) rfl) rfl (fun w' hS hV K hK => ?_) ?_
                  · have e19 : x 19 = (.int .i64 (p)) := hV 19 (by decide)
                    have e26 : x 26 = (.int .i64 (xe)) := hV 26 (by decide)
                    have q0 := hS.1; have q1 := hS.2.1; have q2 := hS.2.2.1; have q3 := hS.2.2.2.1
                    go_simp
                    refine (inv_any p xe _ hp hp2 hx1.1 hx1.2).mono ?_
                    rintro e v1 ⟨rfl, rfl⟩
                    exact hK.out _ _ _ rfl rfl rfl (Below.refl _ _)
                  simp only [zD, zE, zF]
                  refine obs_step (Eq.trans (by simp only [zA, zB, zC]; exact rfl) rfl) rfl (fun w' hS hV K hK => ?_) ?_
                  · have e18 : x 18 = (.int .i64 (-y)) := hV 18 (by decide)
                    have e27 : x 27 = (.int .i64 (invF p xe)) := hV 27 (by decide)
                    have q0 := hS.1; have q1 := hS.2.1; have q2 := hS.2.2.1; have q3 := hS.2.2.2.1
                    go_simp
                    exact hK.out _ _ _ rfl rfl rfl (Below.refl _ _)
                  simp only [zD, zE, zF]
                  refine obs_step (Eq.trans (by simp only [zA, zB, zC]; exact rfl) rfl) rfl (fun w' hS hV K hK => ?_) ?_
                  · have e2 : x 2 = (.int .i64 (p)) := hV 2 (by decide)
                    have e6 : x 6 = (.slice (some ⟨gr, or', none⟩) n cr) := hV 6 (by decide)
                    have e10 : x 10 = (.slice (some ⟨gd, od, none⟩) n cd2) := hV 10 (by decide)
                    have e28 : x 28 = (.int .i64 (-y * invF p xe)) := hV 28 (by decide)
                    have q0 := hS.1; have q1 := hS.2.1; have q2 := hS.2.2.1; have q3 := hS.2.2.2.1
                    go_simp
                    refine (plus_any p _ n _ _ n _ (-y * invF p xe) _ _ _ hp hp2 hn (Nat.le_refl _) (HRR.out.rd.below hS.2.2.2.2) HR1.out.2 (HRD.out.rd.below hS.2.2.2.2) HD1.out.2 HK.out.1 HK.out.2).mono ?_
                    rintro e v1 ⟨A2, c2, rfl, hM⟩
                    exact hK.out _ _ _ rfl rfl ⟨_, _, rfl, hM.after hS.2.2.2.2⟩ hM.b
                  simp only [zD, zE, zF]
                  refine obs_step (Eq.trans (by simp only [zA, zB, zC]; exact rfl) rfl) rfl (fun w' hS hV K hK => ?_) ?_
                  · have e0 : x 0 = (.slice (some ⟨g, 0, none⟩) n c1) := hV 0 (by decide)
                    have e1 : x 1 = (.int .i64 (r)) := hV 1 (by decide)
                    have q0 := hS.1; have q1 := hS.2.1; have q2 := hS.2.2.1; have q3 := hS.2.2.2.1
                    go_simp
                    exact hK.out _ _ _ rfl rfl rfl (Below.refl _ _)
                  simp only [zD, zE, zF]
                  refine fun w' hS hV => ?_
                  have e0 : x 0 = (.slice (some ⟨g, 0, none⟩) n c1) := hV 0 (by decide)
                  have e1 : x 1 = (.int .i64 (r)) := hV 1 (by decide)
                  have e2 : x 2 = (.int .i64 (p)) := hV 2 (by decide)
                  have e3 : x 3 = (.slice (some ⟨g, 0, none⟩) n c1) := hV 3 (by decide)
                  have e4 : x 4 = (.int .i64 (r)) := hV 4 (by decide)
                  have e5 : x 5 = (.pointer (some ⟨g, r, none⟩)) := hV 5 (by decide)
                  have e6 : x 6 = (.slice (some ⟨gr, or', none⟩) n cr) := hV 6 (by decide)
                  have e7 : x 7 = (.slice (some ⟨g, 0, none⟩) n c1) := hV 7 (by decide)
                  have e8 : x 8 = (.int .i64 (i)) := hV 8 (by decide)
                  have e9 : x 9 = (.pointer (some ⟨g, i, none⟩)) := hV 9 (by decide)
                  have e10 : x 10 = (.slice (some ⟨gd, od, none⟩) n cd2) := hV 10 (by decide)
                  have e11 : x 11 = (.slice (some ⟨g, 0, none⟩) n c1) := hV 11 (by decide)
                  have e12 : x 12 = (.int .i64 (r)) := hV 12 (by decide)
                  have e13 : x 13 = (.pointer (some ⟨g, r, none⟩)) := hV 13 (by decide)
                  have e14 : x 14 = (.slice (some ⟨gr, or', none⟩) n cr) := hV 14 (by decide)
                  have e15 : x 15 = (.int .i64 (i)) := hV 15 (by decide)
                  have e16 : x 16 = (.pointer (some ⟨gr, or' + i, none⟩)) := hV 16 (by decide)
                  have e17 : x 17 = (.int .i64 (y)) := hV 17 (by decide)
                  have e18 : x 18 = (.int .i64 (-y)) := hV 18 (by decide)
                  have e19 : x 19 = (.int .i64 (p)) := hV 19 (by decide)
                  have e20 : x 20 = (.slice (some ⟨g, 0, none⟩) n c1) := hV 20 (by decide)
                  have e21 : x 21 = (.int .i64 (i)) := hV 21 (by decide)
                  have e22 : x 22 = (.pointer (some ⟨g, i, none⟩)) := hV 22 (by decide)
                  have e23 : x 23 = (.slice (some ⟨gd, od, none⟩) n cd2) := hV 23 (by decide)
                  have e24 : x 24 = (.int .i64 (i)) := hV 24 (by decide)
                  have e25 : x 25 = (.pointer (some ⟨gd, od + i, none⟩)) := hV 25 (by decide)
                  have e26 : x 26 = (.int .i64 (xe)) := hV 26 (by decide)
                  have e27 : x 27 = (.int .i64 (invF p xe)) := hV 27 (by decide)
                  have e28 : x 28 = (.int .i64 (-y * invF p xe)) := hV 28 (by decide)
                  obtain ⟨A29, c29, e29, h29⟩ := hV 29 (by decide)
                  have e30 : x 30 = (.pointer (some ⟨g, r, none⟩)) := hV 30 (by decide)
                  simp only [e0, e1, e2, e3, e4, e5, e6, e7, e8, e9, e10, e11, e12, e13, e14, e15, e16, e17, e18, e19, e20, e21, e22, e23, e24, e25, e26, e27, e28, e29, e30]
                  clear e0 e1 e2 e3 e4 e5 e6 e7 e8 e9 e10 e11 e12 e13 e14 e15 e16 e17 e18 e19 e20 e21 e22 e23 e24 e25 e26 e27 e28 e29 e30
                  have hbn := hS.2.2.2.2
                  have q0 := hS.1
                  have ff := (HM4.out.below hbn).frozen_ r
                  refine any_one (j := 31) (by kernel_rfl) (Eq.trans (by simp only [zA, zB, zC]; exact rfl) rfl) (fun K hK => ?_)
                  go_simp
                  refine hK.out _ _ (wpAny_done (by kernel_rfl) ?_ _)
                  have hM5 := HM4.out.setRow h29 r
                  have hM6 : MkII w (w'.setCell ⟨g, r, none⟩ (.slice A29 n c29)) (some ⟨g, 0, none⟩) n c1 (dClr p N i (r + 1)) := by
                    rw [dClr_succ (by rw [HTS.out.2]; exact hlr) (by omega), HDR.out]
                    exact hM5
                  clear q0 ff hM5 h29 hbn hS hV
                  go_wp2
                  go_roundw
                  case rel => exact ⟨r + 1, by omega, by omega, by go_num, hM6⟩
                  case measure => simp [intOf]; omega
                · obtain rfl : r = n := by omega
                  have HM4 := Lib.hid hM4
                  clear hM4
                  go_wp2
                  go_roundw
                  case rel => exact ⟨i + 1, o2 * xe % p, dClr p N i r, rfl, by go_num, by omega, HOX.out, HNXT, Lib.hid ⟨dClr_tab (by omega) HTS.out.1 _ _, by rw [dClr_len, HTS.out.2]⟩, HM4.out⟩
                  case measure => simp [intOf]; omega
          · have hx0' : xe = 0 := by simpa using hz
            go_wp2
            go_round
            case rel => exact ⟨j + 1, by omega, by omega, by go_num, Lib.hid (by rw [← hj3.out, HPV.out, if_pos (by rw [HE.out]; exact hx0')])⟩
            case measure => simp [intOf]; omega
        · obtain rfl : j = n := by omega
          have HVP : Hid (pivOf L i i = j) := Lib.hid (by rw [← hj3.out, Nat.sub_self]; rfl)
          have HZ : Hid (detL p M = 0) := Lib.hid (by rw [HD.out, HSUC.out, detF_none (by rw [HVP.out, HT1.out.2])])
          go_wp2
          go_ret
          rw [HZ.out]
          exact ⟨rfl, HBB.out⟩
    · obtain rfl : i = n := by omega
      have HZ : Hid (detL p M = out) := Lib.hid (by rw [HD.out, Nat.sub_self]; rfl)
      go_wp2
      go_ret
      rw [HZ.out]
      exact ⟨rfl, HBB.out⟩
end Go.Proofs.YtdbibmilicjllaaGreat
namespace Go.Proofs.YtdbibmilicjllaaGreat
open Go.RowKit
set_option maxHeartbeats 6400000 in
set_option maxRecDepth 8000 in
theorem isIsometry_sq (P : Int) (A : Option Addr) (n c : Nat) (sq : List Int) (D : Option Addr) (d : Nat) (M : List (List Int)) (w : World) (HP : isP P = true) (hn0 : 0 < n) (hn : n ≤ 6) (ha : Rd w A n (ints sq)) (hs : NumsL P sq) (hd : RdII w D n M) (hM : Tab P n M) :
    Calls Tryz.prog 147 #[.agg #[.int .i64 P, .slice A n c], .agg #[.int .i64 P, .slice A n c], .slice D n d] w fun e w' => e = .returned (.bool (isoB P sq M)) ∧ Below w.heap.size w w' := by
  have t7 : (P != P) = false := by simp
  have t6 : ((n : Int) != (n : Int)) = false := by simp
  have hB0 : Below w.heap.size w ((w.alloc (.cells #[.int .i64 P, .slice A n c] 26)).alloc (.cells #[.int .i64 P, .slice A n c] 26)) := ((Below.refl _ _).alloc (Nat.le_refl _) _).alloc (by simp) _
  have k0 : Blk ((w.alloc (.cells #[.int .i64 P, .slice A n c] 26)).alloc (.cells #[.int .i64 P, .slice A n c] 26)) w.heap.size 26 #[.int .i64 P, .slice A n c] := (Blk.new _ _ _).alloc _
  have k1 : Blk ((w.alloc (.cells #[.int .i64 P, .slice A n c] 26)).alloc (.cells #[.int .i64 P, .slice A n c] 26)) (w.heap.size + 1) 26 #[.int .i64 P, .slice A n c] := Blk.newAt3 (by simp)
  obtain ⟨hp3, hp2⟩ := isP_ge HP
  have HTT : Hid (Tab P n (transL M) ∧ (transL M).length = n) := Lib.hid (trans_ok (by omega) hM (hd.len) hn0)
  have HM := Lib.hid hM
  have HSN := Lib.hid hs
  have HSL := Lib.hid ha.lenI
  have HFR : Hid (frB P sq.length M = true) := Lib.hid (frB_iff.2 ⟨hd.len.trans ha.lenI.symm, by rw [ha.lenI]; exact hM⟩)
  obtain ⟨R, hR⟩ : ∃ b, b = isoB P sq M := ⟨_, rfl⟩
  rw [← hR]
  have HR := Lib.hid hR
  obtain ⟨dd, hdd⟩ : ∃ x, x = detL P M := ⟨_, rfl⟩
  have HD := Lib.hid hdd
  have HIM := Lib.hid fun w' (h : Below w.heap.size w w') => isMatrix_ok P D n d M n w' (by omega) hp2 hn0 (by omega) hn0 (by omega) (hd.below h) hM
  have HDE := Lib.hid fun w' (h : Below w.heap.size w w') => determinant_any P D n d M w' HP hn0 (by omega) (hd.below h) hM
  rw [← hdd] at HDE
  have HTP := Lib.hid fun w' (h : Below w.heap.size w w') => transpose_any P D n d M n w' hn0 (by omega) (by omega) (hd.below h) hM
  have HA := Lib.hid ha
  obtain ⟨b, hb0⟩ : ∃ b, b = (dd == 0) := ⟨_, rfl⟩
  have hb1 : (dd == 0) = b := hb0.symm
  have HB : Hid ((b = true → R = false) ∧ (b = false → detL P M ≠ 0)) := Lib.hid ⟨fun h => by rw [HR.out]; exact is_det (by rw [← hdd]; rw [h] at hb0; simpa using hb0.symm), fun h => by rw [← hdd]; rw [h] at hb0; simpa using hb0.symm⟩
  obtain ⟨g, o, rfl, hx0, A0, c0, hc0, -, -⟩ := (hd.below hB0).at_ hn0
  rw [(hM M[0] (List.getElem_mem hx0)).1, Nat.add_zero] at hc0
  clear hM hd hs ha hR hdd hb0 HP hx0
  obtain ⟨q0, q1⟩ := k0.two
  obtain ⟨q2, q3⟩ := k1.two
  go_enter Tryz.func147, Tryz.ntmps147
  go_wp2
  refine wp_obs 42 [[], [0], [], [2], [0, 1, 2, 3], [0, 1, 2, 3, 4], [0, 1, 2, 3, 4, 5], [0, 1, 2, 3, 4, 5, 6], [0, 1, 2, 3, 4, 5], [0, 1, 2, 3, 4, 5, 8], [0, 1, 2, 3, 4, 5, 6, 7, 8, 9], [0, 1, 2, 3, 4, 5, 6, 7, 8, 9, 10], [0, 1, 2, 3, 4, 5, 6, 7, 8, 9, 10, 11], [0, 1, 2, 3, 4, 5, 6, 7, 8, 9, 10, 11, 12], [0, 1, 2, 3, 4, 5, 6, 7, 8, 9, 10, 11, 12, 13], [0, 1, 2, 3, 4, 5, 6, 7, 8, 9, 10, 11, 12], [0, 1, 2, 3, 4, 5, 6, 7, 8, 9, 10, 11, 12, 13, 14, 15], [0, 1, 2, 3, 4, 5, 6, 7, 8, 9, 10, 11, 12, 13, 14, 15, 16], [0, 1, 2, 3, 4, 5, 6, 7, 8, 9, 10, 11, 12, 13, 14, 15, 16, 17], [0, 1, 2, 3, 4, 5, 6, 7, 8, 9, 10, 11, 12, 13, 14, 15, 16, 17, 18], [0, 1, 2, 3, 4, 5, 6, 7, 8, 9, 10, 11, 12, 13, 14, 15, 16, 17, 18, 19], [0, 1, 2, 3, 4, 5, 6, 7, 8, 9, 10, 11, 12, 13, 14, 15, 16, 17, 18, 19, 20], [0, 1, 2, 3, 4, 5, 6, 7, 8, 9, 10, 11, 12, 13, 14, 15, 16, 17, 18, 19], [0, 1, 2, 3, 4, 5, 6, 7, 8, 9, 10, 11, 12, 13, 14, 15, 16, 17, 18, 19, 22], [0, 1, 2, 3, 4, 5, 6, 7, 8, 9, 10, 11, 12, 13, 14, 15, 16, 17, 18, 19, 20, 21, 22, 23], [0, 1, 2, 3, 4, 5, 6, 7, 8, 9, 10, 11, 12, 13, 14, 15, 16, 17, 18, 19, 20, 21, 22, 23, 24], [0, 1, 2, 3, 4, 5, 6, 7, 8, 9, 10, 11, 12, 13, 14, 15, 16, 17, 18, 19, 20, 21, 22, 23, 24, 25], [0, 1, 2, 3, 4, 5, 6, 7, 8, 9, 10, 11, 12, 13, 14, 15, 16, 17, 18, 19, 20, 21, 22, 23, 24, 25, 26], [0, 1, 2, 3, 4, 5, 6, 7, 8, 9, 10, 11, 12, 13, 14, 15, 16, 17, 18, 19, 20, 21, 22, 23, 24, 25, 26, 27], [0, 1, 2, 3, 4, 5, 6, 7, 8, 9, 10, 11, 12, 13, 14, 15, 16, 17, 18, 19, 20, 21, 22, 23, 24, 25, 26, 27, 28], [0, 1, 2, 3, 4, 5, 6, 7, 8, 9, 10, 11, 12, 13, 14, 15, 16, 17, 18, 19, 20, 21, 22, 23, 24, 25, 26, 27, 28, 29], [0, 1, 2, 3, 4, 5, 6, 7, 8, 9, 10, 11, 12, 13, 14, 15, 16, 17, 18, 19, 20, 21, 22, 23, 24, 25, 26], [0, 1, 2, 3, 4, 5, 6, 7, 8, 9, 10, 11, 12, 13, 14, 15, 16, 17, 18, 19, 20, 21, 22, 23, 24, 25, 26, 31], [0, 1, 2, 3, 4, 5, 6, 7, 8, 9, 10, 11, 12, 13, 14, 15, 16, 17, 18, 19, 20, 21, 22, 23, 24, 25, 26, 27, 28, 29, 30, 31, 32], [0, 1, 2, 3, 4, 5, 6, 7, 8, 9, 10, 11, 12, 13, 14, 15, 16, 17, 18, 19, 20, 21, 22, 23, 24, 25, 26, 27, 28, 29, 30, 31, 32, 33], [0, 1, 2, 3, 4, 5, 6, 7, 8, 9, 10, 11, 12, 13, 14, 15, 16, 17, 18, 19, 20, 21, 22, 23, 24, 25, 26, 27, 28, 29, 30, 31, 32, 33, 34], [0, 1, 2, 3, 4, 5, 6, 7, 8, 9, 10, 11, 12, 13, 14, 15, 16, 17, 18, 19, 20, 21, 22, 23, 24, 25, 26, 27, 28, 29, 30, 31, 32, 33, 34, 35], [0, 1, 2, 3, 4, 5, 6, 7, 8, 9, 10, 11, 12, 13, 14, 15, 16, 17, 18, 19, 20, 21, 22, 23, 24, 25, 26, 27, 28, 29, 30, 31, 32, 33, 34, 35, 36], [0, 1, 2, 3, 4, 5, 6, 7, 8, 9, 10, 11, 12, 13, 14, 15, 16, 17, 18, 19, 20, 21, 22, 23, 24, 25, 26, 27, 28, 29, 30, 31, 32, 33, 34, 35], [0, 1, 2, 3, 4, 5, 6, 7, 8, 9, 10, 11, 12, 13, 14, 15, 16, 17, 18, 19, 20, 21, 22, 23, 24, 25, 26, 27, 28, 29, 30, 31, 32, 33, 34, 35, 36, 37, 38], [0, 1, 2, 3, 4, 5, 6, 7, 8, 9, 10, 11, 12, 13, 14, 15, 16, 17, 18, 19, 20, 21, 22, 23, 24, 25, 26, 27, 28, 29, 30, 31, 32, 33, 34, 35, 36, 37, 38, 39], [0, 1, 2, 3, 4, 5, 6, 7, 8, 9, 10, 11, 12, 13, 14, 15, 16, 17, 18, 19, 20, 21, 22, 23, 24, 25, 26, 27, 28, 29, 30, 31, 32, 33, 34, 35, 36, 37, 38, 39, 40]] [VIs (.pointer (some ⟨w.heap.size, 0, none⟩)), VIs (.int .i64 (P)), VIs (.pointer (some ⟨w.heap.size + 1, 0, none⟩)), VIs (.int .i64 (P)), VIs (.bool false), VIs (.bool false), VIs (.agg #[.int .i64 P, .slice A n c]), VIs (.int .i64 (n)), VIs (.agg #[.int .i64 P, .slice A n c]), VIs (.int .i64 (n)), VIs (.bool false), VIs (.bool false), VIs (.bool false), VIs (.agg #[.int .i64 P, .slice A n c]), VIs (.int .i64 (P)), VIs (.slice (some ⟨g, o, none⟩) n d), VIs (.bool true), VIs (.bool false), VIs (.bool false), VIs (.bool false), VIs (.slice (some ⟨g, o, none⟩) n d), VIs (.int .i64 (n)), VIs (.agg #[.int .i64 P, .slice A n c]), VIs (.int .i64 (n)), VIs (.bool false), VIs (.bool false), VIs (.bool false), VIs (.slice (some ⟨g, o, none⟩) n d), VIs (.pointer (some ⟨g, o, none⟩)), VIs (.slice A0 n c0), VIs (.int .i64 (n)), VIs (.agg #[.int .i64 P, .slice A n c]), VIs (.int .i64 (n)), VIs (.bool false), VIs (.bool false), VIs (.bool false), VIs (.agg #[.int .i64 P, .slice A n c]), VIs (.int .i64 (P)), VIs (.slice (some ⟨g, o, none⟩) n d), VIs (.int .i64 (dd)), VIs (.bool b), VIs (.bool b)] (fun w' => w'.cell? ⟨g, o, none⟩ = some (.slice A0 n c0) ∧ Blk w' w.heap.size 26 #[.int .i64 P, .slice A n c] ∧ Blk w' (w.heap.size + 1) 26 #[.int .i64 P, .slice A n c] ∧ Below w.heap.size w w') (by kernel_rfl) (by kernel_rfl) (fun _ _ h hb => ⟨(hb.cell (World.block_lt_of_cell? _ _ h.1)).trans h.1, h.2.1.below hb h.2.1.lt, h.2.2.1.below hb h.2.2.1.lt, h.2.2.2.trans (hb.mono h.2.2.2.size)⟩) (⟨hc0, k0.drew, k1.drew, hB0.drew⟩) (fun x => ?_)
  refine obs_step (Eq.trans (by simp only [zA, zC]; exact rfl) rfl) rfl (fun w' hS hV K hK => ?_) ?_
  · have q9 := hS.1; obtain ⟨q0, q1⟩ := hS.2.1.two; obtain ⟨q2, q3⟩ := hS.2.2.1.two
    go_simp
    exact hK.out _ _ _ rfl rfl rfl (Below.refl _ _)
  simp only [zD, zE, zF]
  refine obs_step (Eq.trans (by simp only [zA, zB, zC]; exact rfl) rfl) rfl (fun w' hS hV K hK => ?_) ?_
  · have e0 : x 0 = (.pointer (some ⟨w.heap.size, 0, none⟩)) := hV 0 (by decide)
    have q9 := hS.1; obtain ⟨q0, q1⟩ := hS.2.1.two; obtain ⟨q2, q3⟩ := hS.2.2.1.two
    go_simp
    exact hK.out _ _ _ rfl rfl rfl (Below.refl _ _)
  simp only [zD, zE, zF]
  refine obs_step (Eq.trans (by simp only [zA, zB, zC]; exact rfl) rfl) rfl (fun w' hS hV K hK => ?_) ?_
  · have q9 := hS.1; obtain ⟨q0, q1⟩ := hS.2.1.two; obtain ⟨q2, q3⟩ := hS.2.2.1.two
    go_simp
    exact hK.out _ _ _ rfl rfl rfl (Below.refl _ _)
  simp only [zD, zE, zF]
  refine obs_step (Eq.trans (by simp only [zA, zB, zC]; exact rfl) rfl) rfl (fun w' hS hV K hK => ?_) ?_
  · have e2 : x 2 = (.pointer (some ⟨w.heap.size + 1, 0, none⟩)) := hV 2 (by decide)
    have q9 := hS.1; obtain ⟨q0, q1⟩ := hS.2.1.two; obtain ⟨q2, q3⟩ := hS.2.2.1.two
    go_simp
    exact hK.out _ _ _ rfl rfl rfl (Below.refl _ _)
  simp only [zD, zE, zF]
  refine obs_step (Eq.trans (by simp only [zA, zB, zC]; exact rfl) rfl) rfl (fun w' hS hV K hK => ?_) ?_
  · have e1 : x 1 = (.int .i64 (P)) := hV 1 (by decide)
    have e3 : x 3 = (.int .i64 (P)) := hV 3 (by decide)
    have q9 := hS.1; obtain ⟨q0, q1⟩ := hS.2.1.two; obtain ⟨q2, q3⟩ := hS.2.2.1.two
    go_simp
    exact hK.out _ _ _ rfl rfl rfl (Below.refl _ _)
  simp only [zD, zE, zF]
  refine obs_step (Eq.trans (by simp only [zA, zB, zC]; exact rfl) rfl) rfl (fun w' hS hV K hK => ?_) ?_
  · have e4 : x 4 = (.bool false) := hV 4 (by decide)
    have q9 := hS.1; obtain ⟨q0, q1⟩ := hS.2.1.two; obtain ⟨q2, q3⟩ := hS.2.2.1.two
    go_simp
    exact hK.out _ _ _ rfl rfl rfl (Below.refl _ _)
  simp only [zD, zE, zF]
  refine obs_step (Eq.trans (by simp only [zA, zB, zC]; exact rfl) rfl) rfl (fun w' hS hV K hK => ?_) ?_
  · have e5 : x 5 = (.bool false) := hV 5 (by decide)
    have q9 := hS.1; obtain ⟨q0, q1⟩ := hS.2.1.two; obtain ⟨q2, q3⟩ := hS.2.2.1.two
    go_simp
    exact hK.out _ _ _ rfl rfl rfl (Below.refl _ _)
  simp only [zD, zE, zF]
  refine obs_step (Eq.trans (by simp only [zA, zB, zC]; exact rfl) rfl) rfl (fun w' hS hV K hK => ?_) ?_
  · have e5 : x 5 = (.bool false) := hV 5 (by decide)
    have e6 : x 6 = (.agg #[.int .i64 P, .slice A n c]) := hV 6 (by decide)
    have q9 := hS.1; obtain ⟨q0, q1⟩ := hS.2.1.two; obtain ⟨q2, q3⟩ := hS.2.2.1.two
    go_simp
    refine (dim_any _ _ _ _ _).mono ?_
    rintro e v1 ⟨rfl, hb⟩
    exact hK.out _ _ _ rfl rfl rfl hb
  simp only [zD, zE, zF]
  refine obs_step (Eq.trans (by simp only [zA, zB, zC]; exact rfl) rfl) rfl (fun w' hS hV K hK => ?_) ?_
  · have e5 : x 5 = (.bool false) := hV 5 (by decide)
    have q9 := hS.1; obtain ⟨q0, q1⟩ := hS.2.1.two; obtain ⟨q2, q3⟩ := hS.2.2.1.two
    go_simp
    exact hK.out _ _ _ rfl rfl rfl (Below.refl _ _)
  simp only [zD, zE, zF]
  refine obs_step (Eq.trans (by simp only [zA, zB, zC]; exact rfl) rfl) rfl (fun w' hS hV K hK => ?_) ?_
  · have e5 : x 5 = (.bool false) := hV 5 (by decide)
    have e8 : x 8 = (.agg #[.int .i64 P, .slice A n c]) := hV 8 (by decide)
    have q9 := hS.1; obtain ⟨q0, q1⟩ := hS.2.1.two; obtain ⟨q2, q3⟩ := hS.2.2.1.two
    go_simp
    refine (dim_any _ _ _ _ _).mono ?_
    rintro e v1 ⟨rfl, hb⟩
    exact hK.out _ _ _ rfl rfl rfl hb
  simp only [zD, zE, zF]
  refine obs_step (Eq.trans (by simp only [zA, zB, zC]; exact rfl) rfl) rfl (fun w' hS hV K hK => ?_) ?_
  · have e5 : x 5 = (.bool false) := hV 5 (by decide)
    have e7 : x 7 = (.int .i64 (n)) := hV 7 (by decide)
    have e9 : x 9 = (.int .i64 (n)) := hV 9 (by decide)
    have q9 := hS.1; obtain ⟨q0, q1⟩ := hS.2.1.two; obtain ⟨q2, q3⟩ := hS.2.2.1.two
    go_simp
    exact hK.out _ _ _ rfl rfl rfl (Below.refl _ _)
  simp only [zD, zE, zF]
  refine obs_step (Eq.trans (by simp only [zA, zB, zC]; exact rfl) rfl) rfl (fun w' hS hV K hK => ?_) ?_
  · have e5 : x 5 = (.bool false) := hV 5 (by decide)
    have e10 : x 10 = (.bool false) := hV 10 (by decide)
    have q9 := hS.1; obtain ⟨q0, q1⟩ := hS.2.1.two; obtain ⟨q2, q3⟩ := hS.2.2.1.two
    go_simp
    exact hK.out _ _ _ rfl rfl rfl (Below.refl _ _)
  simp only [zD, zE, zF]
  refine obs_step (Eq.trans (by simp only [zA, zB, zC]; exact rfl) rfl) rfl (fun w' hS hV K hK => ?_) ?_
  · have e11 : x 11 = (.bool false) := hV 11 (by decide)
    have q9 := hS.1; obtain ⟨q0, q1⟩ := hS.2.1.two; obtain ⟨q2, q3⟩ := hS.2.2.1.two
    go_simp
    exact hK.out _ _ _ rfl rfl rfl (Below.refl _ _)
  simp only [zD, zE, zF]
  refine obs_step (Eq.trans (by simp only [zA, zB, zC]; exact rfl) rfl) rfl (fun w' hS hV K hK => ?_) ?_
  · have e12 : x 12 = (.bool false) := hV 12 (by decide)
    have q9 := hS.1; obtain ⟨q0, q1⟩ := hS.2.1.two; obtain ⟨q2, q3⟩ := hS.2.2.1.two
    go_simp
    exact hK.out _ _ _ rfl rfl rfl (Below.refl _ _)
  simp only [zD, zE, zF]
  refine obs_step (Eq.trans (by simp only [zA, zB, zC]; exact rfl) rfl) rfl (fun w' hS hV K hK => ?_) ?_
  · have e12 : x 12 = (.bool false) := hV 12 (by decide)
    have e13 : x 13 = (.agg #[.int .i64 P, .slice A n c]) := hV 13 (by decide)
    have q9 := hS.1; obtain ⟨q0, q1⟩ := hS.2.1.two; obtain ⟨q2, q3⟩ := hS.2.2.1.two
    go_simp
    refine (field_any _ _ _ _ _).mono ?_
    rintro e v1 ⟨rfl, hb⟩
    exact hK.out _ _ _ rfl rfl rfl hb
  simp only [zD, zE, zF]
  refine obs_step (Eq.trans (by simp only [zA, zB, zC]; exact rfl) rfl) rfl (fun w' hS hV K hK => ?_) ?_
  · have e12 : x 12 = (.bool false) := hV 12 (by decide)
    have q9 := hS.1; obtain ⟨q0, q1⟩ := hS.2.1.two; obtain ⟨q2, q3⟩ := hS.2.2.1.two
    go_simp
    exact hK.out _ _ _ rfl rfl rfl (Below.refl _ _)
  simp only [zD, zE, zF]
  refine obs_step (Eq.trans (by simp only [zA, zB, zC]; exact rfl) rfl) rfl (fun w' hS hV K hK => ?_) ?_
  · have e12 : x 12 = (.bool false) := hV 12 (by decide)
    have e14 : x 14 = (.int .i64 (P)) := hV 14 (by decide)
    have e15 : x 15 = (.slice (some ⟨g, o, none⟩) n d) := hV 15 (by decide)
    have q9 := hS.1; obtain ⟨q0, q1⟩ := hS.2.1.two; obtain ⟨q2, q3⟩ := hS.2.2.1.two
    go_simp
    refine (HIM.out _ hS.2.2.2).mono ?_
    rintro e v1 ⟨rfl, rfl⟩
    exact hK.out _ _ _ rfl rfl rfl (Below.refl _ _)
  simp only [zD, zE, zF]
  refine obs_step (Eq.trans (by simp only [zA, zB, zC]; exact rfl) rfl) rfl (fun w' hS hV K hK => ?_) ?_
  · have e12 : x 12 = (.bool false) := hV 12 (by decide)
    have e16 : x 16 = (.bool true) := hV 16 (by decide)
    have q9 := hS.1; obtain ⟨q0, q1⟩ := hS.2.1.two; obtain ⟨q2, q3⟩ := hS.2.2.1.two
    go_simp
    exact hK.out _ _ _ rfl rfl rfl (Below.refl _ _)
  simp only [zD, zE, zF]
  refine obs_step (Eq.trans (by simp only [zA, zB, zC]; exact rfl) rfl) rfl (fun w' hS hV K hK => ?_) ?_
  · have e12 : x 12 = (.bool false) := hV 12 (by decide)
    have e17 : x 17 = (.bool false) := hV 17 (by decide)
    have q9 := hS.1; obtain ⟨q0, q1⟩ := hS.2.1.two; obtain ⟨q2, q3⟩ := hS.2.2.1.two
    go_simp
    exact hK.out _ _ _ rfl rfl rfl (Below.refl _ _)
  simp only [zD, zE, zF]
  refine obs_step (Eq.trans (by simp only [zA, zB, zC]; exact rfl) rfl) rfl (fun w' hS hV K hK => ?_) ?_
  · have e18 : x 18 = (.bool false) := hV 18 (by decide)
    have q9 := hS.1; obtain ⟨q0, q1⟩ := hS.2.1.two; obtain ⟨q2, q3⟩ := hS.2.2.1.two
    go_simp
    exact hK.out _ _ _ rfl rfl rfl (Below.refl _ _)
  simp only [zD, zE, zF]
  refine obs_step (Eq.trans (by simp only [zA, zB, zC]; exact rfl) rfl) rfl (fun w' hS hV K hK => ?_) ?_
  · have e19 : x 19 = (.bool false) := hV 19 (by decide)
    have q9 := hS.1; obtain ⟨q0, q1⟩ := hS.2.1.two; obtain ⟨q2, q3⟩ := hS.2.2.1.two
    go_simp
    exact hK.out _ _ _ rfl rfl rfl (Below.refl _ _)
  simp only [zD, zE, zF]
  refine obs_step (Eq.trans (by simp only [zA, zB, zC]; exact rfl) rfl) rfl (fun w' hS hV K hK => ?_) ?_
  · have e19 : x 19 = (.bool false) := hV 19 (by decide)
    have e20 : x 20 = (.slice (some ⟨g, o, none⟩) n d) := hV 20 (by decide)
    have q9 := hS.1; obtain ⟨q0, q1⟩ := hS.2.1.two; obtain ⟨q2, q3⟩ := hS.2.2.1.two
    go_simp
    exact hK.out _ _ _ rfl rfl rfl (Below.refl _ _)
  simp only [zD, zE, zF]
  refine obs_step (Eq.trans (by simp only [zA, zB, zC]; exact rfl) rfl) rfl (fun w' hS hV K hK => ?_) ?_
  · have e19 : x 19 = (.bool false) := hV 19 (by decide)
    have q9 := hS.1; obtain ⟨q0, q1⟩ := hS.2.1.two; obtain ⟨q2, q3⟩ := hS.2.2.1.two
    go_simp
    exact hK.out _ _ _ rfl rfl rfl (Below.refl _ _)
  simp only [zD, zE, zF]
  refine obs_step (Eq.trans (by simp only [zA, zB, zC]; exact rfl) rfl) rfl (fun w' hS hV K hK => ?_) ?_
  · have e19 : x 19 = (.bool false) := hV 19 (by decide)
    have e22 : x 22 = (.agg #[.int .i64 P, .slice A n c]) := hV 22 (by decide)
    have q9 := hS.1; obtain ⟨q0, q1⟩ := hS.2.1.two; obtain ⟨q2, q3⟩ := hS.2.2.1.two
    go_simp
    refine (dim_any _ _ _ _ _).mono ?_
    rintro e v1 ⟨rfl, hb⟩
    exact hK.out _ _ _ rfl rfl rfl hb
  simp only [zD, zE, zF]
  refine obs_step (Eq.trans (by simp only [zA, zB, zC]; exact rfl) rfl) rfl (fun w' hS hV K hK => ?_) ?_
  · have e19 : x 19 = (.bool false) := hV 19 (by decide)
    have e21 : x 21 = (.int .i64 (n)) := hV 21 (by decide)
    have e23 : x 23 = (.int .i64 (n)) := hV 23 (by decide)
    have q9 := hS.1; obtain ⟨q0, q1⟩ := hS.2.1.two; obtain ⟨q2, q3⟩ := hS.2.2.1.two
    go_simp
    exact hK.out _ _ _ rfl rfl rfl (Below.refl _ _)
  simp only [zD, zE, zF]
  refine obs_step (Eq.trans (by simp only [zA, zB, zC]; exact rfl) rfl) rfl (fun w' hS hV K hK => ?_) ?_
  · have e19 : x 19 = (.bool false) := hV 19 (by decide)
    have e24 : x 24 = (.bool false) := hV 24 (by decide)
    have q9 := hS.1; obtain ⟨q0, q1⟩ := hS.2.1.two; obtain ⟨q2, q3⟩ := hS.2.2.1.two
    go_simp
    exact hK.out _ _ _ rfl rfl rfl (Below.refl _ _)
  simp only [zD, zE, zF]
  refine obs_step (Eq.trans (by simp only [zA, zB, zC]; exact rfl) rfl) rfl (fun w' hS hV K hK => ?_) ?_
  · have e25 : x 25 = (.bool false) := hV 25 (by decide)
    have q9 := hS.1; obtain ⟨q0, q1⟩ := hS.2.1.two; obtain ⟨q2, q3⟩ := hS.2.2.1.two
    go_simp
    exact hK.out _ _ _ rfl rfl rfl (Below.refl _ _)
  simp only [zD, zE, zF]
  refine obs_step (Eq.trans (by simp only [zA, zB, zC]; exact rfl) rfl) rfl (fun w' hS hV K hK => ?_) ?_
  · have e26 : x 26 = (.bool false) := hV 26 (by decide)
    have q9 := hS.1; obtain ⟨q0, q1⟩ := hS.2.1.two; obtain ⟨q2, q3⟩ := hS.2.2.1.two
    go_simp
    exact hK.out _ _ _ rfl rfl rfl (Below.refl _ _)
  simp only [zD, zE, zF]
  refine obs_step (Eq.trans (by simp only [zA, zB, zC]; exact rfl) rfl) rfl (fun w' hS hV K hK => ?_) ?_
  · have e26 : x 26 = (.bool false) := hV 26 (by decide)
    have e27 : x 27 = (.slice (some ⟨g, o, none⟩) n d) := hV 27 (by decide)
    have q9 := hS.1; obtain ⟨q0, q1⟩ := hS.2.1.two; obtain ⟨q2, q3⟩ := hS.2.2.1.two
    go_simp
    exact hK.out _ _ _ rfl rfl rfl (Below.refl _ _)
  simp only [zD, zE, zF]
  refine obs_step (Eq.trans (by simp only [zA, zB, zC]; exact rfl) rfl) rfl (fun w' hS hV K hK => ?_) ?_
  · have e26 : x 26 = (.bool false) := hV 26 (by decide)
    have e28 : x 28 = (.pointer (some ⟨g, o, none⟩)) := hV 28 (by decide)
    have q9 := hS.1; obtain ⟨q0, q1⟩ := hS.2.1.two; obtain ⟨q2, q3⟩ := hS.2.2.1.two
    go_simp
    exact hK.out _ _ _ rfl rfl rfl (Below.refl _ _)
  simp only [zD, zE, zF]
  refine obs_step (Eq.trans (by simp only [zA, zB, zC]; exact rfl) rfl) rfl (fun w' hS hV K hK => ?_) ?_
  · have e26 : x 26 = (.bool false) := hV 26 (by decide)
    have e29 : x 29 = (.slice A0 n c0) := hV 29 (by decide)
    have q9 := hS.1; obtain ⟨q0, q1⟩ := hS.2.1.two; obtain ⟨q2, q3⟩ := hS.2.2.1.two
    go_simp
    exact hK.out _ _ _ rfl rfl rfl (Below.refl _ _)
  simp only [zD, zE, zF]
  refine obs_step (Eq.trans (by simp only [zA, zB, zC]; exact rfl) rfl) rfl (fun w' hS hV K hK => ?_) ?_
  · have e26 : x 26 = (.bool false) := hV 26 (by decide)
    have q9 := hS.1; obtain ⟨q0, q1⟩ := hS.2.1.two; obtain ⟨q2, q3⟩ := hS.2.2.1.two
    go_simp
    exact hK.out _ _ _ rfl rfl rfl (Below.refl _ _)
  simp only [zD, zE, zF]
  refine obs_step (Eq.trans (by simp only [zA, zB, zC]; exact rfl) rfl) rfl (fun w' hS hV K hK => ?_) ?_
  · have e26 : x 26 = (.bool false) := hV 26 (by decide)
    have e31 : x 31 = (.agg #[.int .i64 P, .slice A n c]) := hV 31 (by decide)
    have q9 := hS.1; obtain ⟨q0, q1⟩ := hS.2.1.two; obtain ⟨q2, q3⟩ := hS.2.2.1.two
    go_simp
    refine (dim_any _ _ _ _ _).mono ?_
    rintro e v1 ⟨rfl, hb⟩
    exact hK.out _ _ _ rfl rfl rfl hb
  simp only [zD, zE, zF]
  refine obs_step (Eq.trans (by simp only [zA, zB, zC]; exact rfl) rfl) rfl (fun w' hS hV K hK => ?_) ?_
  · have e26 : x 26 = (.bool false) := hV 26 (by decide)
    have e30 : x 30 = (.int .i64 (n)) := hV 30 (by decide)
    have e32 : x 32 = (.int .i64 (n)) := hV 32 (by decide)
    have q9 := hS.1; obtain ⟨q0, q1⟩ := hS.2.1.two; obtain ⟨q2, q3⟩ := hS.2.2.1.two
    go_simp
    exact hK.out _ _ _ rfl rfl rfl (Below.refl _ _)
  simp only [zD, zE, zF]
  refine obs_step (Eq.trans (by simp only [zA, zB, zC]; exact rfl) rfl) rfl (fun w' hS hV K hK => ?_) ?_
  · have e26 : x 26 = (.bool false) := hV 26 (by decide)
    have e33 : x 33 = (.bool false) := hV 33 (by decide)
    have q9 := hS.1; obtain ⟨q0, q1⟩ := hS.2.1.two; obtain ⟨q2, q3⟩ := hS.2.2.1.two
    go_simp
    exact hK.out _ _ _ rfl rfl rfl (Below.refl _ _)
  simp only [zD, zE, zF]
  refine obs_step (Eq.trans (by simp only [zA, zB, zC]; exact rfl) rfl) rfl (fun w' hS hV K hK => ?_) ?_
  · have e34 : x 34 = (.bool false) := hV 34 (by decide)
    have q9 := hS.1; obtain ⟨q0, q1⟩ := hS.2.1.two; obtain ⟨q2, q3⟩ := hS.2.2.1.two
    go_simp
    exact hK.out _ _ _ rfl rfl rfl (Below.refl _ _)
  simp only [zD, zE, zF]
  refine obs_step (Eq.trans (by simp only [zA, zB, zC]; exact rfl) rfl) rfl (fun w' hS hV K hK => ?_) ?_
  · have e35 : x 35 = (.bool false) := hV 35 (by decide)
    have q9 := hS.1; obtain ⟨q0, q1⟩ := hS.2.1.two; obtain ⟨q2, q3⟩ := hS.2.2.1.two
    go_simp
    exact hK.out _ _ _ rfl rfl rfl (Below.refl _ _)
  simp only [zD, zE, zF]
  refine obs_step (Eq.trans (by simp only [zA, zB, zC]; exact rfl) rfl) rfl (fun w' hS hV K hK => ?_) ?_
  · have e35 : x 35 = (.bool false) := hV 35 (by decide)
    have e36 : x 36 = (.agg #[.int .i64 P, .slice A n c]) := hV 36 (by decide)
    have q9 := hS.1; obtain ⟨q0, q1⟩ := hS.2.1.two; obtain ⟨q2, q3⟩ := hS.2.2.1.two
    go_simp
    refine (field_any _ _ _ _ _).mono ?_
    rintro e v1 ⟨rfl, hb⟩
    exact hK.out _ _ _ rfl rfl rfl hb
  simp only [zD, zE, zF]
  refine obs_step (Eq.trans (by simp only [zA, zB, zC]; exact rfl) rfl) rfl (fun w' hS hV K hK => ?_) ?_
  · have e35 : x 35 = (.bool false) := hV 35 (by decide)
    have q9 := hS.1; obtain ⟨q0, q1⟩ := hS.2.1.two; obtain ⟨q2, q3⟩ := hS.2.2.1.two
    go_simp
    exact hK.out _ _ _ rfl rfl rfl (Below.refl _ _)
  simp only [zD, zE, zF]
  refine obs_step (Eq.trans (by simp only [zA, zB, zC]; exact rfl) rfl) rfl (fun w' hS hV K hK => ?_) ?_
  · have e35 : x 35 = (.bool false) := hV 35 (by decide)
    have e37 : x 37 = (.int .i64 (P)) := hV 37 (by decide)
    have e38 : x 38 = (.slice (some ⟨g, o, none⟩) n d) := hV 38 (by decide)
    have q9 := hS.1; obtain ⟨q0, q1⟩ := hS.2.1.two; obtain ⟨q2, q3⟩ := hS.2.2.1.two
    go_simp
    refine (HDE.out _ hS.2.2.2).mono ?_
    rintro e v1 ⟨rfl, hb⟩
    exact hK.out _ _ _ rfl rfl rfl hb
  simp only [zD, zE, zF]
  refine obs_step (Eq.trans (by simp only [zA, zB, zC]; exact rfl) rfl) rfl (fun w' hS hV K hK => ?_) ?_
  · have e35 : x 35 = (.bool false) := hV 35 (by decide)
    have e39 : x 39 = (.int .i64 (dd)) := hV 39 (by decide)
    have q9 := hS.1; obtain ⟨q0, q1⟩ := hS.2.1.two; obtain ⟨q2, q3⟩ := hS.2.2.1.two
    go_simp
    exact hK.out _ _ _ rfl rfl rfl (Below.refl _ _)
  simp only [zD, zE, zF]
  refine obs_step (Eq.trans (by simp only [zA, zB, zC]; exact rfl) rfl) rfl (fun w' hS hV K hK => ?_) ?_
  · have e35 : x 35 = (.bool false) := hV 35 (by decide)
    have e40 : x 40 = (.bool b) := hV 40 (by decide)
    have q9 := hS.1; obtain ⟨q0, q1⟩ := hS.2.1.two; obtain ⟨q2, q3⟩ := hS.2.2.1.two
    go_simp
    exact hK.out _ _ _ rfl rfl rfl (Below.refl _ _)
  simp only [zD, zE, zF]
  refine fun w' hS hV => ?_
  have e0 : x 0 = (.pointer (some ⟨w.heap.size, 0, none⟩)) := hV 0 (by decide)
  have e1 : x 1 = (.int .i64 (P)) := hV 1 (by decide)
  have e2 : x 2 = (.pointer (some ⟨w.heap.size + 1, 0, none⟩)) := hV 2 (by decide)
  have e3 : x 3 = (.int .i64 (P)) := hV 3 (by decide)
  have e4 : x 4 = (.bool false) := hV 4 (by decide)
  have e5 : x 5 = (.bool false) := hV 5 (by decide)
  have e6 : x 6 = (.agg #[.int .i64 P, .slice A n c]) := hV 6 (by decide)
  have e7 : x 7 = (.int .i64 (n)) := hV 7 (by decide)
  have e8 : x 8 = (.agg #[.int .i64 P, .slice A n c]) := hV 8 (by decide)
  have e9 : x 9 = (.int .i64 (n)) := hV 9 (by decide)
  have e10 : x 10 = (.bool false) := hV 10 (by decide)
  have e11 : x 11 = (.bool false) := hV 11 (by decide)
  have e12 : x 12 = (.bool false) := hV 12 (by decide)
  have e13 : x 13 = (.agg #[.int .i64 P, .slice A n c]) := hV 13 (by decide)
  have e14 : x 14 = (.int .i64 (P)) := hV 14 (by decide)
  have e15 : x 15 = (.slice (some ⟨g, o, none⟩) n d) := hV 15 (by decide)
  have e16 : x 16 = (.bool true) := hV 16 (by decide)
  have e17 : x 17 = (.bool false) := hV 17 (by decide)
  have e18 : x 18 = (.bool false) := hV 18 (by decide)
  have e19 : x 19 = (.bool false) := hV 19 (by decide)
  have e20 : x 20 = (.slice (some ⟨g, o, none⟩) n d) := hV 20 (by decide)
  have e21 : x 21 = (.int .i64 (n)) := hV 21 (by decide)
  have e22 : x 22 = (.agg #[.int .i64 P, .slice A n c]) := hV 22 (by decide)
  have e23 : x 23 = (.int .i64 (n)) := hV 23 (by decide)
  have e24 : x 24 = (.bool false) := hV 24 (by decide)
  have e25 : x 25 = (.bool false) := hV 25 (by decide)
  have e26 : x 26 = (.bool false) := hV 26 (by decide)
  have e27 : x 27 = (.slice (some ⟨g, o, none⟩) n d) := hV 27 (by decide)
  have e28 : x 28 = (.pointer (some ⟨g, o, none⟩)) := hV 28 (by decide)
  have e29 : x 29 = (.slice A0 n c0) := hV 29 (by decide)
  have e30 : x 30 = (.int .i64 (n)) := hV 30 (by decide)
  have e31 : x 31 = (.agg #[.int .i64 P, .slice A n c]) := hV 31 (by decide)
  have e32 : x 32 = (.int .i64 (n)) := hV 32 (by decide)
  have e33 : x 33 = (.bool false) := hV 33 (by decide)
  have e34 : x 34 = (.bool false) := hV 34 (by decide)
  have e35 : x 35 = (.bool false) := hV 35 (by decide)
  have e36 : x 36 = (.agg #[.int .i64 P, .slice A n c]) := hV 36 (by decide)
  have e37 : x 37 = (.int .i64 (P)) := hV 37 (by decide)
  have e38 : x 38 = (.slice (some ⟨g, o, none⟩) n d) := hV 38 (by decide)
  have e39 : x 39 = (.int .i64 (dd)) := hV 39 (by decide)
  have e40 : x 40 = (.bool b) := hV 40 (by decide)
  have e41 : x 41 = (.bool b) := hV 41 (by decide)
  simp only [e0, e1, e2, e3, e4, e5, e6, e7, e8, e9, e10, e11, e12, e13, e14, e15, e16, e17, e18, e19, e20, e21, e22, e23, e24, e25, e26, e27, e28, e29, e30, e31, e32, e33, e34, e35, e36, e37, e38, e39, e40, e41]
  clear e0 e1 e2 e3 e4 e5 e6 e7 e8 e9 e10 e11 e12 e13 e14 e15 e16 e17 e18 e19 e20 e21 e22 e23 e24 e25 e26 e27 e28 e29 e30 e31 e32 e33 e34 e35 e36 e37 e38 e39 e40 e41
  refine wpAny_done (by kernel_rfl) ?_ _
  obtain ⟨w3, rfl⟩ : ∃ W, W = w' := ⟨_, rfl⟩
  have k3 := hS.2.1
  have l3 := hS.2.2.1
  have hB3 := hS.2.2.2
  clear hS q0 q1 q2 q3 k0 k1 hB0 hc0 hb1
  cases b
  · have HDN := Lib.hid (HB.out.2 rfl)
    clear HB
    go_wp2_with fail
    refine (HTP.out w3 hB3).mono ?_
    rintro e w4 ⟨A4, c4, rfl, hM4⟩
    have k4 := k3.below hM4.b k3.lt
    have l4 := l3.below hM4.b l3.lt
    have hB4 := hB3.trans (hM4.b.mono hB3.size)
    have C4 := hM4.rd
    clear k3 l3 hB3 hM4
    go_wp2
    go_loopw [59] (fun i wr => ∃ j : Nat, j ≤ n ∧ i = .int .i64 j ∧ Below w4.heap.size w4 wr ∧ Hid (isTo P sq M (fun _ => sq.length) j 0)) (fun i _ => n - (intOf i).toNat)
    case atStart => exact ⟨0, by omega, rfl, Below.refl _ _, Lib.hid ⟨fun a ha => absurd ha (by omega), fun b hb => absurd hb (by omega)⟩⟩
    case round =>
      obtain ⟨i, hi, rfl, hbr, HI⟩ := hrel
      by_cases hlt : i < n
      · obtain ⟨gc, oc, rfl, hxi, Ai, ci, hci4, hri, -⟩ := C4.at_ hlt
        have hci := (hbr.cell (World.block_lt_of_cell? _ _ hci4)).trans hci4
        clear hci4
        have ht := HTT.out.1 _ (List.getElem_mem hxi)
        have li := ht.1
        rw [li] at hci hri
        have HNI := Lib.hid ht.2
        have HGI : Hid ((transL M).getD i [] = (transL M)[i]) := Lib.hid (getD_of_lt [] hxi)
        obtain ⟨vi, hvi⟩ : ∃ v, v = (transL M)[i] := ⟨_, rfl⟩
        rw [← hvi] at hri HNI HGI
        clear hvi ht li hxi
        obtain ⟨si, hsi⟩ : ∃ s, s = sq.getD i 0 := ⟨_, rfl⟩
        have HSI := Lib.hid hsi
        obtain ⟨ga, oa, eA, hxa, hca⟩ := HA.out.int hlt
        have hsv : sq[i] = si := by rw [hsi, getD_of_lt 0 hxa]
        rw [hsv] at hca
        have EA := Lib.hid eA
        clear hsi hsv hxa eA
        go_wp2
        go_loopw [66] (fun k wr => ∃ j : Nat, j ≤ n ∧ k = .int .i64 j ∧ Below w4.heap.size w4 wr ∧ Hid (isTo P sq M (fun _ => sq.length) i j)) (fun i _ => n - (intOf i).toNat)
        case atStart => exact ⟨0, by omega, rfl, hbr, HI⟩
        case round =>
          obtain ⟨k, hk, rfl, hb2, HK⟩ := hrel
          clear hbr hci
          by_cases hkt : k < n
          · obtain ⟨gc', oc', e9, hxk, Ak, ck, hck, hrk, -⟩ := (C4.below hb2).at_ hkt
            cases e9
            have ht := HTT.out.1 _ (List.getElem_mem hxk)
            have lk := ht.1
            rw [lk] at hck hrk
            have HNK := Lib.hid ht.2
            have HGK : Hid ((transL M).getD k [] = (transL M)[k]) := Lib.hid (getD_of_lt [] hxk)
            obtain ⟨vk, hvk⟩ : ∃ v, v = (transL M)[k] := ⟨_, rfl⟩
            rw [← hvk] at hrk HNK HGK
            clear hvk ht lk hxk
            have hB5 := hB4.trans (hb2.mono hB4.size)
            have k5 := k4.below hb2 k4.lt
            have l5 := l4.below hb2 l4.lt
            have hpr := pair_any P A n c sq Ai ci vi Ak ck vk wr (by omega) hp2 hn (HA.out.below hB5) HSN.out (hri.below hb2) HNI.out hrk HNK.out
            have HZZ : Hid (pairL P sq vi vk = colP P sq M i k) := Lib.hid (by unfold colP; rw [HGI.out, HGK.out])
            obtain ⟨z, hz⟩ : ∃ z, z = pairL P sq vi vk := ⟨_, rfl⟩
            rw [← hz] at hpr HZZ
            have hca5 : wr.cell? ⟨ga, oa + i, none⟩ = some (.int .i64 si) := (hB5.cell (World.block_lt_of_cell? _ _ hca)).trans hca
            have eA := EA.out
            subst eA
            clear hz hrk
            obtain ⟨q0, q1⟩ := k5.two
            obtain ⟨q2, q3⟩ := l5.two
            by_cases hik : i = k
            · subst hik
              obtain ⟨t, ht0⟩ : ∃ t, t = (z != si) := ⟨_, rfl⟩
              have ht1 : (z != si) = t := ht0.symm
              have HZ : Hid ((t = true → R = false) ∧ (t = false → isTo P sq M (fun _ => sq.length) i (i + 1))) := Lib.hid ⟨fun h => by rw [HR.out]; exact is_stop (by rw [HSL.out]; exact hlt) (by rw [HSL.out]; exact hlt) (by rw [← HZZ.out]; unfold colW; rw [if_pos rfl, ← HSI.out]; rw [h] at ht0; simpa using ht0.symm), fun h => HK.out.next (by rw [← HZZ.out]; unfold colW; rw [if_pos rfl, ← HSI.out]; rw [h] at ht0; simpa using ht0.symm)⟩
              have t9 : ((i : Int) == (i : Int)) = true := by simp
              clear ht0
              go_wp2_with fail
              refine hpr.mono ?_
              rintro e w6 ⟨rfl, hb6⟩
              clear hpr q0 q1 q2 q3
              cases t
              · have HZ1 := Lib.hid (HZ.out.2 rfl)
                clear HZ
                go_wp2
                go_roundw
                case rel => exact ⟨i + 1, by omega, by go_num, hb2.trans (hb6.mono hb2.size), HZ1⟩
                case measure => simp [intOf]; omega
              · obtain rfl : R = false := HZ.out.1 rfl
                clear HZ
                go_wp2
                go_ret
                exact ⟨rfl, hB5.trans (hb6.mono hB5.size)⟩
            · obtain ⟨t, ht0⟩ : ∃ t, t = (z != 0) := ⟨_, rfl⟩
              have ht1 : (z != 0) = t := ht0.symm
              have HZ : Hid ((t = true → R = false) ∧ (t = false → isTo P sq M (fun _ => sq.length) i (k + 1))) := Lib.hid ⟨fun h => by rw [HR.out]; exact is_stop (by rw [HSL.out]; exact hlt) (by rw [HSL.out]; exact hkt) (by rw [← HZZ.out]; unfold colW; rw [if_neg hik]; rw [h] at ht0; simpa using ht0.symm), fun h => HK.out.next (by rw [← HZZ.out]; unfold colW; rw [if_neg hik]; rw [h] at ht0; simpa using ht0.symm)⟩
              have t9 : ((i : Int) == (k : Int)) = false := by rw [beq_eq_false_iff_ne]; omega
              clear ht0 hik
              go_wp2_with fail
              refine hpr.mono ?_
              rintro e w6 ⟨rfl, hb6⟩
              clear hpr q0 q1 q2 q3
              cases t
              · have HZ1 := Lib.hid (HZ.out.2 rfl)
                clear HZ
                go_wp2
                go_roundw
                case rel => exact ⟨k + 1, by omega, by go_num, hb2.trans (hb6.mono hb2.size), HZ1⟩
                case measure => simp [intOf]; omega
              · obtain rfl : R = false := HZ.out.1 rfl
                clear HZ
                go_wp2
                go_ret
                exact ⟨rfl, hB5.trans (hb6.mono hB5.size)⟩
          · have HK1 : Hid (isTo P sq M (fun _ => sq.length) (i + 1) 0) := Lib.hid (HK.out.row (by rw [HSL.out]; omega))
            go_wp2
            go_roundw
            case rel => exact ⟨i + 1, by omega, by go_num, hb2, HK1⟩
            case measure => simp [intOf]; omega
      · obtain rfl : R = true := by
          rw [HR.out]
          have h := HI.out
          rw [show i = sq.length by rw [HSL.out]; omega] at h
          exact h.full HFR.out HDN.out
        go_wp2
        go_ret
        exact ⟨rfl, hB4.trans (hbr.mono hB4.size)⟩
  · obtain rfl : R = false := HB.out.1 rfl
    clear HB
    go_wp2
    go_ret
    exact ⟨rfl, hB3⟩
end Go.Proofs.YtdbibmilicjllaaGreat
