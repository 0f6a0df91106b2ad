/-
  LawFnOrthogonalOrders: part 9 of the texts that the proof needs. No condition.
-/
import Derived.Test.YtmkjdpnoloofjaaGreatR8
namespace Go.Proofs.YtmkjdpnoloofjaaGreat
open Go.RowKit
theorem mod_less (p y a : Int) : (p * a - y * a) % p = (-(y * a)) % p := by
 rw [show p * a - y * a = -(y * a) + p * a by omega, Int.add_mul_emod_self_left]
set_option maxHeartbeats 6400000 in
set_option maxRecDepth 8000 in
theorem l02Det_any (p : Int) (A : Option Addr) (n c : Nat) (M : List (List Int)) (w : World) (HP : isP p = true) (h0 : 0 < n) (hn : n ≤ 65536) (ha : RdII w A n M) (hT : Tab p n M) :
    Calls Tryz.prog 282 #[.int .i64 p, .slice A n c] w fun e w' => e = .returned (.int .i64 (detL p M)) ∧ Below w.heap.size w w' := by
 have hML := ha.len
 obtain ⟨hp3, hp2⟩ := isP_ge HP
 have hp : 2 ≤ p := by omega
 have HP' := Lib.hid HP
 have hclone := l01Own2_any p A n c M n w hn hn ha hT
 have HST : Hid (detL p M = detF p n M 0 1) := Lib.hid (by unfold detL; rw [hML])
 have HT := Lib.hid (And.intro hT hML)
 clear hT HP ha
 go_enter Tryz.func282, Tryz.ntmps282
 go_wp2_with fail
 refine hclone.mono ?_
 rintro e w1 ⟨A1, c1, rfl, hM1⟩
 clear hclone hML
 obtain ⟨g, rfl, -⟩ := hM1.at_ h0
 go_wp2
 go_loopw [6, 7] (fun o q wr => ∃ (i : Nat) (out : Int) (L : List (List Int)), o = .int .i64 out ∧ q = .int .i64 i ∧ i ≤ n ∧ (0 ≤ out ∧ out < p) ∧ Hid (detL p M = detF p (n - i) L i out) ∧ Hid (Tab p n L ∧ L.length = n) ∧ MkII w wr (some ⟨g, 0, none⟩) n c1 L) (fun _ q _ => n - (intOf q).toNat)
 case atStart => exact ⟨0, 1, M, rfl, rfl, by omega, by omega, Lib.hid (by rw [HST.out]; rfl), HT, hM1⟩
 case round =>
  obtain ⟨i, out, L, rfl, rfl, hin, hob, HD, HT1, hM⟩ := hrel
  clear hM1 HST HT
  have HM := Lib.hid hM
  have HBB := Lib.hid hM.b
  clear hM
  by_cases hli : i < n
  · have HSUC : Hid (detF p (n - i) L i out = detF p ((n - (i + 1)) + 1) L i out) := Lib.hid (by rw [show n - i = (n - (i + 1)) + 1 by omega])
    go_wp2
    go_loop [8] (fun q => ∃ j : Nat, i ≤ j ∧ j ≤ n ∧ q = .int .i64 j ∧ Hid (piv L i (n - j) j = pivOf L i i)) (fun q => n - (intOf q).toNat)
    case atStart => exact ⟨i, by omega, by omega, rfl, Lib.hid (by unfold pivOf; rw [HT1.out.2])⟩
    case round =>
     obtain ⟨j, hj1, hj2, rfl, hj3⟩ := hrel
     by_cases hlj : j < n
     · obtain ⟨g0, e0, hxj, Aj, cj, hcj, hrj⟩ := HM.out.at_ hlj
       injection e0 with e0; injection e0 with e0 _ _; subst e0
       have HRJ := Lib.hid (HT1.out.1 L[j] (List.getElem_mem hxj))
       have hlj2 : L[j].length = n := HRJ.out.1
       rw [hlj2] at hcj hrj
       obtain ⟨gj, oj, rfl, hxe, hce⟩ := hrj.rd.int hli
       have HE : Hid (ent L j i = L[j][i]) := Lib.hid (ent_at' hxj hxe)
       have HPV : Hid (piv L i (n - j) j = if ent L j i = 0 then piv L i (n - (j + 1)) (j + 1) else j) := Lib.hid (by
        rw [show n - j = (n - (j + 1)) + 1 by omega]; rfl)
       have HROW : Hid ((swapL L i j)[i]? = some L[j]) := Lib.hid (by
        rw [swapL_get? L (by rw [HT1.out.2]; exact hli) hxj]
        by_cases hdj : i = j
        · subst hdj; rw [if_pos rfl]; exact List.getElem?_eq_getElem hxj
        · rw [if_neg hdj, if_pos rfl]; exact List.getElem?_eq_getElem hxj)
       have HTS : Hid (Tab p n (swapL L i j) ∧ (swapL L i j).length = n) := Lib.hid ⟨swapL_tab HT1.out.1 (by rw [HT1.out.2]; exact hli) hxj, by rw [swapL_len, HT1.out.2]⟩
       obtain ⟨R, hR⟩ : ∃ R, R = L[j] := ⟨_, rfl⟩
       have HXE : Hid (∀ h : i < R.length, R[i] = L[j][i]) := Lib.hid (fun h => by simp only [hR])
       rw [← hR] at hrj HRJ HROW
       clear hlj2
       obtain ⟨xe, hxe'⟩ : ∃ x, x = L[j][i] := ⟨_, rfl⟩
       rw [← hxe'] at hce HE HXE
       have HX : Hid (0 ≤ xe ∧ xe < p) := Lib.hid (hxe' ▸ ((HT1.out.1 L[j] (List.getElem_mem hxj)).2 _ (List.getElem_mem hxe)))
       clear hxe' hxe hR hxj
       cases hz : (xe == 0)
       · have hne : xe ≠ 0 := by simpa using hz
         have HVP : Hid (pivOf L i i = j) := Lib.hid (by rw [← hj3.out, HPV.out, if_neg (by rw [HE.out]; exact hne)])
         have HEI : Hid (ent (swapL L i j) i i = xe) := Lib.hid (by
          have h1 := HROW.out
          have e1 : (swapL L i j).getD i [] = R := by rw [List.getD_eq_getElem?_getD, h1]; rfl
          have hl : i < R.length := by rw [HRJ.out.1]; exact hli
          unfold ent
          rw [e1, getD_of_lt 0 hl, HXE.out hl])
         have HNX : Hid (detL p M = detF p (n - (i + 1)) (dClr p (swapL L i j) i n) (i + 1) ((if j = i then out else (-out) % p) * xe % p)) := Lib.hid (by
          rw [HD.out, HSUC.out, detF_step (by rw [HVP.out, HT1.out.2]; omega), HVP.out, HEI.out, HT1.out.2])
         have hx1 := HX.out
         have hiv := invF_small hp xe
         have tj : ((j : Int) == (n : Int)) = false := by simp; omega
         by_cases hij : j = i
         · obtain rfl := hij
           have t2 : ((j : Int) != (j : Int)) = false := by simp
           have HSM : Hid (swapL L j j = L) := Lib.hid (swapL_same L (by rw [HT1.out.2]; exact hli))
           have HM2 := Lib.hid (show MkII w wr (some ⟨g, 0, none⟩) n c1 (swapL L j j) by rw [HSM.out]; exact HM.out)
           clear hrj hcj hce HSM
           obtain ⟨N, hN⟩ : ∃ N, N = swapL L j j := ⟨_, rfl⟩
           rw [← hN] at HM2 HTS HEI HNX HROW
           obtain ⟨o2, ho2⟩ : ∃ o2, o2 = out := ⟨_, rfl⟩
           have HO2 : Hid (0 ≤ o2 ∧ o2 < p) := Lib.hid (by rw [ho2]; exact hob)
           have HNXT : Hid (detL p M = detF p (n - (j + 1)) (dClr p N j n) (j + 1) (o2 * xe % p)) := Lib.hid (by rw [HNX.out, if_pos rfl, ho2])
           rw [← ho2]
           clear hN ho2 HNX
           obtain ⟨g0, e0, hxs, As, cs, hcs2, hrs⟩ := HM2.out.at_ hli
           injection e0 with e0; injection e0 with e0 _ _; subst e0
           have hrow : N[j] = R := by have := HROW.out; rw [List.getElem?_eq_getElem hxs] at this; exact Option.some.inj this
           rw [hrow] at hcs2 hrs
           have hRl := HRJ.out.1
           rw [hRl] at hcs2 hrs
           obtain ⟨gs, os, rfl, hxe2, hce2⟩ := hrs.rd.int hli
           rw [HXE.out hxe2] at hce2
           clear hrs hrow hxe2 hxs hRl
           have hob2 := HO2.out
           have hmb := mul_b (a := o2) (b := xe) (by omega) (by omega)
           have hw1 := i64_small (x := o2 * xe) (by omega) (by omega)
           have hP0 : (p == 0) = false := by simp; omega
           have hP1 : (p == -1) = false := by simp; omega
           have hP2 : ¬ p = 0 := by omega
           have htm : (o2 * xe).tmod p = o2 * xe % p := by rw [Int.tmod_eq_emod_of_nonneg hmb.1]
           have hinv := fun w' => l01Inv_any p xe w' HP'.out (by omega) hx1.2
           go_wp2_with fail
           refine (hinv _).mono ?_
           rintro e w5 ⟨rfl, rfl⟩
           clear hinv hce2 hcs2
           have HM3 := Lib.hid (show MkII w wr (some ⟨g, 0, none⟩) n c1 (dClr p N j (j + 1)) by rw [dClr_start]; exact HM2.out)
           have HOX : Hid (0 ≤ o2 * xe % p ∧ o2 * xe % p < p) := Lib.hid ⟨Int.emod_nonneg _ (by omega), Int.emod_lt_of_pos _ (by omega)⟩
           clear HM2 HM
           go_wp2
           go_loopw [11] (fun q w4 => ∃ r : Nat, j + 1 ≤ r ∧ r ≤ n ∧ q = .int .i64 r ∧ MkII w w4 (some ⟨g, 0, none⟩) n c1 (dClr p N j r)) (fun q _ => n - (intOf q).toNat)
           case atStart => exact ⟨j + 1, by omega, by omega, by go_num, HM3.out⟩
           case round =>
            obtain ⟨r, hr1, hr2, rfl, hM4⟩ := hrel
            clear HM3
            by_cases hlr : r < n
            · have hT4 : Tab p n (dClr p N j r) := dClr_tab (by omega) HTS.out.1 j r
              have hr4 : (dClr p N j r).getD r [] = N.getD r [] := by rw [dClr_getD (by rw [HTS.out.2]; exact hlr), if_neg (by omega)]
              have hd4 : (dClr p N j r).getD j [] = N.getD j [] := by rw [dClr_getD (by rw [HTS.out.2]; exact hli), if_neg (by omega)]
              obtain ⟨g0, e0, hxr, Ar, cr, hcr, hrr⟩ := hM4.at_ hlr
              injection e0 with e0; injection e0 with e0 _ _; subst e0
              obtain ⟨g0, e0, hxd, Ad2, cd2, hcd2, hrd2⟩ := hM4.at_ hli
              injection e0 with e0; injection e0 with e0 _ _; subst e0
              have HR1 := Lib.hid (hT4 _ (List.getElem_mem hxr))
              have HD1 := Lib.hid (hT4 _ (List.getElem_mem hxd))
              have hl1 := HR1.out.1
              have hl2 := HD1.out.1
              rw [getD_of_lt [] hxr] at hr4
              rw [getD_of_lt [] hxd] at hd4
              rw [hl1] at hcr hrr
              rw [hl2] at hcd2 hrd2
              rw [hr4] at hrr HR1
              rw [hd4] at hrd2 HD1
              obtain ⟨gr, or', rfl, hxy, hcy⟩ := hrr.rd.int hli
              obtain ⟨gd, od, rfl, hxz, hcz⟩ := hrd2.rd.int hli
              have hey : ent N r j = (N.getD r [])[j] := by unfold ent; rw [getD_of_lt 0 hxy]
              have hez : (N.getD j [])[j] = xe := by rw [← HEI.out]; unfold ent; rw [getD_of_lt 0 hxz]
              obtain ⟨y, hy⟩ : ∃ y, y = (N.getD r [])[j] := ⟨_, rfl⟩
              have hyb : 0 ≤ y ∧ y < p := hy ▸ HR1.out.2 _ (List.getElem_mem hxy)
              rw [← hy] at hcy hey
              rw [hez] at hcz
              have HDR : Hid (dRow p N j r = plusL p (N.getD r []) (N.getD j []) (-y * invF p xe)) := Lib.hid (by unfold dRow; rw [hey, HEI.out])
              have HM4 := Lib.hid hM4
              have HRR := Lib.hid hrr
              have HRD := Lib.hid hrd2
              clear hy hT4 hr4 hd4 hl1 hl2 hxr hxd hxy hxz hey hez hM4 hrr hrd2
              have hmy := mul_b (a := p - y) (b := invF p xe) (by omega) (by omega)
              have hwy := i64_small (x := p - y) (by omega) (by omega)
              have hwm := i64_small (x := (p - y) * invF p xe) (by omega) (by omega)
              have hty : ((p - y) * invF p xe).tmod p = (p - y) * invF p xe % p := by rw [Int.tmod_eq_emod_of_nonneg hmy.1]
              have hmb2 := emod_small ((p - y) * invF p xe) p (by omega)
              go_wp2
              refine wp_obs 26 [[],[],[],[],[],[3,4],[3,4,5],[],[],[7,8],[7,8,9],[],[],[],[12,13],[12,13,14],[],[12,13,14,15,16],[12,13,14,15,16,17],[11,12,13,14,15,16,17,18],[],[11,12,13,14,15,16,17,18,19,20],[],[11,12,13,14,15,16,17,18,19,20,21,22],[2,3,4,5,6,7,8,9,10,11,12,13,14,15,16,17,18,19,20,21,22,23],[0,1],[0,1,2,3,4,5,6,7,8,9,10,11,12,13,14,15,16,17,18,19,20,21,22,23,24,25]] [VIs (.slice (some ⟨g, 0, none⟩) n c1), VIs (.int .i64 (r)), VIs (.int .i64 (p)), VIs (.slice (some ⟨g, 0, none⟩) n c1), VIs (.int .i64 (r)), VIs (.pointer (some ⟨g, r, none⟩)), VIs (.slice (some ⟨gr, or', none⟩) n cr), VIs (.slice (some ⟨g, 0, none⟩) n c1), VIs (.int .i64 (j)), VIs (.pointer (some ⟨g, j, none⟩)), VIs (.slice (some ⟨gd, od, none⟩) n cd2), VIs (.int .i64 (p)), VIs (.slice (some ⟨g, 0, none⟩) n c1), VIs (.int .i64 (r)), VIs (.pointer (some ⟨g, r, none⟩)), VIs (.slice (some ⟨gr, or', none⟩) n cr), VIs (.int .i64 (j)), VIs (.pointer (some ⟨gr, or' + j, none⟩)), VIs (.int .i64 (y)), VIs (.int .i64 (p - y)), VIs (.int .i64 (invF p xe)), VIs (.int .i64 ((p - y) * invF p xe)), VIs (.int .i64 (p)), VIs (.int .i64 ((p - y) * invF p xe % p)), VSl wr n (plusL p (N.getD r []) (N.getD j []) ((p - y) * invF p xe % p)), VIs (.pointer (some ⟨g, r, none⟩))] (fun w' => w'.cell? ⟨g, r, none⟩ = some (.slice (some ⟨gr, or', none⟩) n cr) ∧ w'.cell? ⟨g, j, none⟩ = some (.slice (some ⟨gd, od, none⟩) n cd2) ∧ w'.cell? ⟨gr, or' + j, none⟩ = some (.int .i64 y) ∧ Below wr.heap.size wr w') (by kernel_rfl) (by kernel_rfl) (fun _ _ h hb => ⟨(hb.cell (World.block_lt_of_cell? _ _ h.1)).trans h.1, (hb.cell (World.block_lt_of_cell? _ _ h.2.1)).trans h.2.1, (hb.cell (World.block_lt_of_cell? _ _ h.2.2.1)).trans h.2.2.1, h.2.2.2.trans (hb.mono h.2.2.2.size)⟩) (⟨hcr, hcd2, hcy, zG.drew⟩) (fun x => ?_)
              refine zS (fun w' hS hV K hK => ?_) ?_
              · have q0 := hS.1; have q1 := hS.2.1; have q2 := hS.2.2.1; go_simp; exact zO hK
              refine zS (fun w' hS hV K hK => ?_) ?_
              · have q0 := hS.1; have q1 := hS.2.1; have q2 := hS.2.2.1; go_simp; exact zO hK
              refine zS (fun w' hS hV K hK => ?_) ?_
              · have q0 := hS.1; have q1 := hS.2.1; have q2 := hS.2.2.1; go_simp; exact zO hK
              refine zS (fun w' hS hV K hK => ?_) ?_
              · have q0 := hS.1; have q1 := hS.2.1; have q2 := hS.2.2.1; go_simp; exact zO hK
              refine zS (fun w' hS hV K hK => ?_) ?_
              · have q0 := hS.1; have q1 := hS.2.1; have q2 := hS.2.2.1; go_simp; exact zO hK
              refine zS (fun w' hS hV K hK => ?_) ?_
              · have e3 := zQ hV 3; have e4 := zQ hV 4; have q0 := hS.1; have q1 := hS.2.1; have q2 := hS.2.2.1; go_simp; exact zO hK
              refine zS (fun w' hS hV K hK => ?_) ?_
              · have e5 := zQ hV 5; have q0 := hS.1; have q1 := hS.2.1; have q2 := hS.2.2.1; go_simp; exact zO hK
              refine zS (fun w' hS hV K hK => ?_) ?_
              · have q0 := hS.1; have q1 := hS.2.1; have q2 := hS.2.2.1; go_simp; exact zO hK
              refine zS (fun w' hS hV K hK => ?_) ?_
              · have q0 := hS.1; have q1 := hS.2.1; have q2 := hS.2.2.1; go_simp; exact zO hK
              refine zS (fun w' hS hV K hK => ?_) ?_
              · have e7 := zQ hV 7; have e8 := zQ hV 8; have q0 := hS.1; have q1 := hS.2.1; have q2 := hS.2.2.1; go_simp; exact zO hK
              refine zS (fun w' hS hV K hK => ?_) ?_
              · have e9 := zQ hV 9; have q0 := hS.1; have q1 := hS.2.1; have q2 := hS.2.2.1; go_simp; exact zO hK
              refine zS (fun w' hS hV K hK => ?_) ?_
              · have q0 := hS.1; have q1 := hS.2.1; have q2 := hS.2.2.1; go_simp; exact zO hK
              refine zS (fun w' hS hV K hK => ?_) ?_
              · have q0 := hS.1; have q1 := hS.2.1; have q2 := hS.2.2.1; go_simp; exact zO hK
              refine zS (fun w' hS hV K hK => ?_) ?_
              · have q0 := hS.1; have q1 := hS.2.1; have q2 := hS.2.2.1; go_simp; exact zO hK
              refine zS (fun w' hS hV K hK => ?_) ?_
              · have e12 := zQ hV 12; have e13 := zQ hV 13; have q0 := hS.1; have q1 := hS.2.1; have q2 := hS.2.2.1; go_simp; exact zO hK
              refine zS (fun w' hS hV K hK => ?_) ?_
              · have e14 := zQ hV 14; have q0 := hS.1; have q1 := hS.2.1; have q2 := hS.2.2.1; go_simp; exact zO hK
              refine zS (fun w' hS hV K hK => ?_) ?_
              · have q0 := hS.1; have q1 := hS.2.1; have q2 := hS.2.2.1; go_simp; exact zO hK
              refine zS (fun w' hS hV K hK => ?_) ?_
              · have e15 := zQ hV 15; have e16 := zQ hV 16; have q0 := hS.1; have q1 := hS.2.1; have q2 := hS.2.2.1; go_simp; exact zO hK
              refine zS (fun w' hS hV K hK => ?_) ?_
              · have e17 := zQ hV 17; have q0 := hS.1; have q1 := hS.2.1; have q2 := hS.2.2.1; go_simp; exact zO hK
              refine zS (fun w' hS hV K hK => ?_) ?_
              · have e11 := zQ hV 11; have e18 := zQ hV 18; have q0 := hS.1; have q1 := hS.2.1; have q2 := hS.2.2.1; go_simp; exact zO hK
              refine zS (fun w' hS hV K hK => ?_) ?_
              · have q0 := hS.1; have q1 := hS.2.1; have q2 := hS.2.2.1; go_simp; exact zO hK
              refine zS (fun w' hS hV K hK => ?_) ?_
              · have e19 := zQ hV 19; have e20 := zQ hV 20; have q0 := hS.1; have q1 := hS.2.1; have q2 := hS.2.2.1; go_simp; exact zO hK
              refine zS (fun w' hS hV K hK => ?_) ?_
              · have q0 := hS.1; have q1 := hS.2.1; have q2 := hS.2.2.1; go_simp; exact zO hK
              refine zS (fun w' hS hV K hK => ?_) ?_
              · have e21 := zQ hV 21; have e22 := zQ hV 22; have q0 := hS.1; have q1 := hS.2.1; have q2 := hS.2.2.1; go_simp; exact zO hK
              refine zS (fun w' hS hV K hK => ?_) ?_
              · have e2 := zQ hV 2; have e6 := zQ hV 6; have e10 := zQ hV 10; have e23 := zQ hV 23; have q0 := hS.1; have q1 := hS.2.1; have q2 := hS.2.2.1; go_simp; refine (l02Plus_any p _ n _ _ n _ ((p - y) * invF p xe % p) _ _ _ hp hp2 hn (Nat.le_refl _) (HRR.out.rd.below hS.2.2.2) HR1.out.2 (HRD.out.rd.below hS.2.2.2) HD1.out.2 (by omega) (by omega)).mono ?_; rintro e v1 ⟨A2, c2, rfl, hM⟩; exact hK.out _ _ _ rfl rfl ⟨_, _, rfl, hM.after hS.2.2.2⟩ hM.b
              refine zS (fun w' hS hV K hK => ?_) ?_
              · have e0 := zQ hV 0; have e1 := zQ hV 1; have q0 := hS.1; have q1 := hS.2.1; have q2 := hS.2.2.1; go_simp; exact zO hK
              refine fun w' hS hV => ?_
              have e0 := zT hV 0
              have e1 := zT hV 1
              have e2 := zT hV 2
              have e3 := zT hV 3
              have e4 := zT hV 4
              have e5 := zT hV 5
              have e6 := zT hV 6
              have e7 := zT hV 7
              have e8 := zT hV 8
              have e9 := zT hV 9
              have e10 := zT hV 10
              have e11 := zT hV 11
              have e12 := zT hV 12
              have e13 := zT hV 13
              have e14 := zT hV 14
              have e15 := zT hV 15
              have e16 := zT hV 16
              have e17 := zT hV 17
              have e18 := zT hV 18
              have e19 := zT hV 19
              have e20 := zT hV 20
              have e21 := zT hV 21
              have e22 := zT hV 22
              have e23 := zT hV 23
              obtain ⟨A24, c24, e24, h24⟩ := hV 24 (by decide)
              have e25 := zT hV 25
              simp only [e0, e1, e2, e3, e4, e5, e6, e7, e8, e9, e10, e11, e12, e13, e14, e15, e16, e17, e18, e19, e20, e21, e22, e23, e24, e25]
              clear e0 e1 e2 e3 e4 e5 e6 e7 e8 e9 e10 e11 e12 e13 e14 e15 e16 e17 e18 e19 e20 e21 e22 e23 e24 e25
              have hbn := hS.2.2.2
              have q0 := hS.1
              have ff := (HM4.out.below hbn).frozen_ r
              refine any_one (j := 26) (by kernel_rfl) (Eq.trans (by simp only [zA, zB, zC]; exact rfl) rfl) (fun K hK => ?_)
              go_simp
              refine hK.out _ _ (wpAny_done (by kernel_rfl) ?_ _)
              have hM5 := HM4.out.setRow h24 r
              have hM6 : MkII w (w'.setCell ⟨g, r, none⟩ (.slice A24 n c24)) (some ⟨g, 0, none⟩) n c1 (dClr p N j (r + 1)) := by
               rw [dClr_succ (by rw [HTS.out.2]; exact hlr) (by omega), HDR.out, plusL_mod p _ _ (k' := (p - y) * invF p xe % p) (by rw [Int.emod_emod_of_dvd _ (Int.dvd_refl _), Int.sub_mul, Int.neg_mul]; exact (mod_less p y (invF p xe)).symm)]
               exact hM5
              clear q0 ff hM5 h24 hbn hS hV
              go_wp2
              go_roundw
              case rel => exact ⟨r + 1, by omega, by omega, by go_num, hM6⟩
              case measure => simp [intOf]; omega
            · obtain rfl : r = n := by omega
              have HM4 := Lib.hid hM4
              clear hM4
              go_wp2
              go_roundw
              case rel => exact ⟨j + 1, o2 * xe % p, dClr p N j r, rfl, by go_num, by omega, HOX.out, HNXT, Lib.hid ⟨dClr_tab (by omega) HTS.out.1 _ _, by rw [dClr_len, HTS.out.2]⟩, HM4.out⟩
              case measure => simp [intOf]; omega
         · skip
           have t2 : ((j : Int) != (i : Int)) = true := by simp; omega
           have t3 : decide ((i : Int) < (j : Int)) = true := by simp; omega
           obtain ⟨g0, e0, hxd, Ad, cd, hcd, hrd⟩ := HM.out.at_ hli
           injection e0 with e0; injection e0 with e0 _ _; subst e0
           have hld2 : L[i].length = n := (HT1.out.1 L[i] (List.getElem_mem hxd)).1
           rw [hld2] at hcd hrd
           have fd := HM.out.frozen_ i
           have fj := HM.out.frozen_ j
           have HSW := Lib.hid (HM.out.swap hlj hli hcj hcd)
           obtain ⟨uj, hcs⟩ := HM.out.cellSet j (A1 := Ad) (m := n) (c1 := cd) hli
           have hwn := i64_small (x := p - out) (by omega) (by omega)
           have hP0' : (p == 0) = false := by simp; omega
           have hP1' : (p == -1) = false := by simp; omega
           have hP2' : ¬ p = 0 := by omega
           have htn : (p - out).tmod p = (-out) % p := by rw [Int.tmod_eq_emod_of_nonneg (by omega)]; simp
           clear hrj hrd hld2 hxd
           obtain ⟨w2, hw2⟩ : ∃ W, W = ((wr.setCell ⟨g, j, none⟩ (.slice Ad n cd)).setCell ⟨g, i, none⟩ (.slice (some ⟨gj, oj, none⟩) n cj)) := ⟨_, rfl⟩
           have hM2 : MkII w w2 (some ⟨g, 0, none⟩) n c1 (swapL L i j) := by rw [hw2, swapL_comm L (fun h => hij h.symm)]; exact HSW.out
           have hcc : w2.cell? ⟨g, i, none⟩ = some (.slice (some ⟨gj, oj, none⟩) n cj) := by
            rw [hw2]
            obtain ⟨v', hv'⟩ := cell?_setCell_some (p := ⟨g, j, none⟩) (x := .slice Ad n cd) hcd
            exact World.cell?_setCell_same' _ _ _ (by rw [hv']; rfl)
           have HM2 := Lib.hid hM2
           clear hM2
           obtain ⟨N, hN⟩ : ∃ N, N = swapL L i j := ⟨_, rfl⟩
           rw [← hN] at HM2 HTS HEI HNX HROW
           obtain ⟨o2, ho2⟩ : ∃ o2, o2 = (-out) % p := ⟨_, rfl⟩
           have HO2 : Hid (0 ≤ o2 ∧ o2 < p) := Lib.hid (by rw [ho2]; exact ⟨Int.emod_nonneg _ (by omega), Int.emod_lt_of_pos _ (by omega)⟩)
           have HNXT : Hid (detL p M = detF p (n - (i + 1)) (dClr p N i n) (i + 1) (o2 * xe % p)) := Lib.hid (by rw [HNX.out, if_neg hij, ho2])
           rw [← ho2] at htn
           clear hN ho2 HNX
           obtain ⟨g0, e0, hxs, As, cs, hcs2, hrs⟩ := HM2.out.at_ hli
           injection e0 with e0; injection e0 with e0 _ _; subst e0
           have hrow : N[i] = R := by have := HROW.out; rw [List.getElem?_eq_getElem hxs] at this; exact Option.some.inj this
           rw [hrow] at hcs2 hrs
           have hRl := HRJ.out.1
           rw [hRl] at hcs2 hrs
           rw [hcc] at hcs2
           injection hcs2 with hcs2; injection hcs2 with eA _ eC
           subst eA
           subst eC
           obtain ⟨gs, os, e9, hxe2, hce2⟩ := hrs.rd.int hli
           injection e9 with e9; injection e9 with e9a e9b _
           subst e9a; subst e9b
           have hcs2 := hcc
           clear hcc
           rw [HXE.out hxe2] at hce2
           clear hrs hrow hxe2 hxs hRl
           have hob2 := HO2.out
           have hmb := mul_b (a := o2) (b := xe) (by omega) (by omega)
           have hw1 := i64_small (x := o2 * xe) (by omega) (by omega)
           have hP0 : (p == 0) = false := by simp; omega
           have hP1 : (p == -1) = false := by simp; omega
           have hP2 : ¬ p = 0 := by omega
           have htm : (o2 * xe).tmod p = o2 * xe % p := by rw [Int.tmod_eq_emod_of_nonneg hmb.1]
           have hinv := fun w' => l01Inv_any p xe w' HP'.out (by omega) hx1.2
           have hcs3 := hcs2
           have hce3 := hce2
           rw [hw2] at hcs3 hce3
           have HW2 := Lib.hid hw2
           clear hw2
           go_wp2_with fail
           rw [← HW2.out]
           clear HW2 hcs3 hce3 HSW hcs fd fj hcd hcj hce
           refine (hinv _).mono ?_
           rintro e w5 ⟨rfl, rfl⟩
           clear hinv hce2 hcs2
           have HM3 := Lib.hid (show MkII w w2 (some ⟨g, 0, none⟩) n c1 (dClr p N i (i + 1)) by rw [dClr_start]; exact HM2.out)
           have HOX : Hid (0 ≤ o2 * xe % p ∧ o2 * xe % p < p) := Lib.hid ⟨Int.emod_nonneg _ (by omega), Int.emod_lt_of_pos _ (by omega)⟩
           clear HM2 HM
           go_wp2
           go_loopw [11] (fun q w4 => ∃ r : Nat, i + 1 ≤ r ∧ r ≤ n ∧ q = .int .i64 r ∧ MkII w w4 (some ⟨g, 0, none⟩) n c1 (dClr p N i r)) (fun q _ => n - (intOf q).toNat)
           case atStart => exact ⟨i + 1, by omega, by omega, by go_num, HM3.out⟩
           case round =>
            obtain ⟨r, hr1, hr2, rfl, hM4⟩ := hrel
            clear HM3
            by_cases hlr : r < n
            · have hT4 : Tab p n (dClr p N i r) := dClr_tab (by omega) HTS.out.1 i r
              have hr4 : (dClr p N i r).getD r [] = N.getD r [] := by rw [dClr_getD (by rw [HTS.out.2]; exact hlr), if_neg (by omega)]
              have hd4 : (dClr p N i r).getD i [] = N.getD i [] := by rw [dClr_getD (by rw [HTS.out.2]; exact hli), if_neg (by omega)]
              obtain ⟨g0, e0, hxr, Ar, cr, hcr, hrr⟩ := hM4.at_ hlr
              injection e0 with e0; injection e0 with e0 _ _; subst e0
              obtain ⟨g0, e0, hxd, Ad2, cd2, hcd2, hrd2⟩ := hM4.at_ hli
              injection e0 with e0; injection e0 with e0 _ _; subst e0
              have HR1 := Lib.hid (hT4 _ (List.getElem_mem hxr))
              have HD1 := Lib.hid (hT4 _ (List.getElem_mem hxd))
              have hl1 := HR1.out.1
              have hl2 := HD1.out.1
              rw [getD_of_lt [] hxr] at hr4
              rw [getD_of_lt [] hxd] at hd4
              rw [hl1] at hcr hrr
              rw [hl2] at hcd2 hrd2
              rw [hr4] at hrr HR1
              rw [hd4] at hrd2 HD1
              obtain ⟨gr, or', rfl, hxy, hcy⟩ := hrr.rd.int hli
              obtain ⟨gd, od, rfl, hxz, hcz⟩ := hrd2.rd.int hli
              have hey : ent N r i = (N.getD r [])[i] := by unfold ent; rw [getD_of_lt 0 hxy]
              have hez : (N.getD i [])[i] = xe := by rw [← HEI.out]; unfold ent; rw [getD_of_lt 0 hxz]
              obtain ⟨y, hy⟩ : ∃ y, y = (N.getD r [])[i] := ⟨_, rfl⟩
              have hyb : 0 ≤ y ∧ y < p := hy ▸ HR1.out.2 _ (List.getElem_mem hxy)
              rw [← hy] at hcy hey
              rw [hez] at hcz
              have HDR : Hid (dRow p N i r = plusL p (N.getD r []) (N.getD i []) (-y * invF p xe)) := Lib.hid (by unfold dRow; rw [hey, HEI.out])
              have HM4 := Lib.hid hM4
              have HRR := Lib.hid hrr
              have HRD := Lib.hid hrd2
              clear hy hT4 hr4 hd4 hl1 hl2 hxr hxd hxy hxz hey hez hM4 hrr hrd2
              have hmy := mul_b (a := p - y) (b := invF p xe) (by omega) (by omega)
              have hwy := i64_small (x := p - y) (by omega) (by omega)
              have hwm := i64_small (x := (p - y) * invF p xe) (by omega) (by omega)
              have hty : ((p - y) * invF p xe).tmod p = (p - y) * invF p xe % p := by rw [Int.tmod_eq_emod_of_nonneg hmy.1]
              have hmb2 := emod_small ((p - y) * invF p xe) p (by omega)
              go_wp2
              refine wp_obs 26 [[],[],[],[],[],[3,4],[3,4,5],[],[],[7,8],[7,8,9],[],[],[],[12,13],[12,13,14],[],[12,13,14,15,16],[12,13,14,15,16,17],[11,12,13,14,15,16,17,18],[],[11,12,13,14,15,16,17,18,19,20],[],[11,12,13,14,15,16,17,18,19,20,21,22],[2,3,4,5,6,7,8,9,10,11,12,13,14,15,16,17,18,19,20,21,22,23],[0,1],[0,1,2,3,4,5,6,7,8,9,10,11,12,13,14,15,16,17,18,19,20,21,22,23,24,25]] [VIs (.slice (some ⟨g, 0, none⟩) n c1), VIs (.int .i64 (r)), VIs (.int .i64 (p)), VIs (.slice (some ⟨g, 0, none⟩) n c1), VIs (.int .i64 (r)), VIs (.pointer (some ⟨g, r, none⟩)), VIs (.slice (some ⟨gr, or', none⟩) n cr), VIs (.slice (some ⟨g, 0, none⟩) n c1), VIs (.int .i64 (i)), VIs (.pointer (some ⟨g, i, none⟩)), VIs (.slice (some ⟨gd, od, none⟩) n cd2), VIs (.int .i64 (p)), VIs (.slice (some ⟨g, 0, none⟩) n c1), VIs (.int .i64 (r)), VIs (.pointer (some ⟨g, r, none⟩)), VIs (.slice (some ⟨gr, or', none⟩) n cr), VIs (.int .i64 (i)), VIs (.pointer (some ⟨gr, or' + i, none⟩)), VIs (.int .i64 (y)), VIs (.int .i64 (p - y)), VIs (.int .i64 (invF p xe)), VIs (.int .i64 ((p - y) * invF p xe)), VIs (.int .i64 (p)), VIs (.int .i64 ((p - y) * invF p xe % p)), VSl wr n (plusL p (N.getD r []) (N.getD i []) ((p - y) * invF p xe % p)), VIs (.pointer (some ⟨g, r, none⟩))] (fun w' => w'.cell? ⟨g, r, none⟩ = some (.slice (some ⟨gr, or', none⟩) n cr) ∧ w'.cell? ⟨g, i, none⟩ = some (.slice (some ⟨gd, od, none⟩) n cd2) ∧ w'.cell? ⟨gr, or' + i, none⟩ = some (.int .i64 y) ∧ Below wr.heap.size wr w') (by kernel_rfl) (by kernel_rfl) (fun _ _ h hb => ⟨(hb.cell (World.block_lt_of_cell? _ _ h.1)).trans h.1, (hb.cell (World.block_lt_of_cell? _ _ h.2.1)).trans h.2.1, (hb.cell (World.block_lt_of_cell? _ _ h.2.2.1)).trans h.2.2.1, h.2.2.2.trans (hb.mono h.2.2.2.size)⟩) (⟨hcr, hcd2, hcy, zG.drew⟩) (fun x => ?_)
              refine zS (fun w' hS hV K hK => ?_) ?_
              · have q0 := hS.1; have q1 := hS.2.1; have q2 := hS.2.2.1; go_simp; exact zO hK
              refine zS (fun w' hS hV K hK => ?_) ?_
              · have q0 := hS.1; have q1 := hS.2.1; have q2 := hS.2.2.1; go_simp; exact zO hK
              refine zS (fun w' hS hV K hK => ?_) ?_
              · have q0 := hS.1; have q1 := hS.2.1; have q2 := hS.2.2.1; go_simp; exact zO hK
              refine zS (fun w' hS hV K hK => ?_) ?_
              · have q0 := hS.1; have q1 := hS.2.1; have q2 := hS.2.2.1; go_simp; exact zO hK
              refine zS (fun w' hS hV K hK => ?_) ?_
              · have q0 := hS.1; have q1 := hS.2.1; have q2 := hS.2.2.1; go_simp; exact zO hK
              refine zS (fun w' hS hV K hK => ?_) ?_
              · have e3 := zQ hV 3; have e4 := zQ hV 4; have q0 := hS.1; have q1 := hS.2.1; have q2 := hS.2.2.1; go_simp; exact zO hK
              refine zS (fun w' hS hV K hK => ?_) ?_
              · have e5 := zQ hV 5; have q0 := hS.1; have q1 := hS.2.1; have q2 := hS.2.2.1; go_simp; exact zO hK
              refine zS (fun w' hS hV K hK => ?_) ?_
              · have q0 := hS.1; have q1 := hS.2.1; have q2 := hS.2.2.1; go_simp; exact zO hK
              refine zS (fun w' hS hV K hK => ?_) ?_
              · have q0 := hS.1; have q1 := hS.2.1; have q2 := hS.2.2.1; go_simp; exact zO hK
              refine zS (fun w' hS hV K hK => ?_) ?_
              · have e7 := zQ hV 7; have e8 := zQ hV 8; have q0 := hS.1; have q1 := hS.2.1; have q2 := hS.2.2.1; go_simp; exact zO hK
              refine zS (fun w' hS hV K hK => ?_) ?_
              · have e9 := zQ hV 9; have q0 := hS.1; have q1 := hS.2.1; have q2 := hS.2.2.1; go_simp; exact zO hK
              refine zS (fun w' hS hV K hK => ?_) ?_
              · have q0 := hS.1; have q1 := hS.2.1; have q2 := hS.2.2.1; go_simp; exact zO hK
              refine zS (fun w' hS hV K hK => ?_) ?_
              · have q0 := hS.1; have q1 := hS.2.1; have q2 := hS.2.2.1; go_simp; exact zO hK
              refine zS (fun w' hS hV K hK => ?_) ?_
              · have q0 := hS.1; have q1 := hS.2.1; have q2 := hS.2.2.1; go_simp; exact zO hK
              refine zS (fun w' hS hV K hK => ?_) ?_
              · have e12 := zQ hV 12; have e13 := zQ hV 13; have q0 := hS.1; have q1 := hS.2.1; have q2 := hS.2.2.1; go_simp; exact zO hK
              refine zS (fun w' hS hV K hK => ?_) ?_
              · have e14 := zQ hV 14; have q0 := hS.1; have q1 := hS.2.1; have q2 := hS.2.2.1; go_simp; exact zO hK
              refine zS (fun w' hS hV K hK => ?_) ?_
              · have q0 := hS.1; have q1 := hS.2.1; have q2 := hS.2.2.1; go_simp; exact zO hK
              refine zS (fun w' hS hV K hK => ?_) ?_
              · have e15 := zQ hV 15; have e16 := zQ hV 16; have q0 := hS.1; have q1 := hS.2.1; have q2 := hS.2.2.1; go_simp; exact zO hK
              refine zS (fun w' hS hV K hK => ?_) ?_
              · have e17 := zQ hV 17; have q0 := hS.1; have q1 := hS.2.1; have q2 := hS.2.2.1; go_simp; exact zO hK
              refine zS (fun w' hS hV K hK => ?_) ?_
              · have e11 := zQ hV 11; have e18 := zQ hV 18; have q0 := hS.1; have q1 := hS.2.1; have q2 := hS.2.2.1; go_simp; exact zO hK
              refine zS (fun w' hS hV K hK => ?_) ?_
              · have q0 := hS.1; have q1 := hS.2.1; have q2 := hS.2.2.1; go_simp; exact zO hK
              refine zS (fun w' hS hV K hK => ?_) ?_
              · have e19 := zQ hV 19; have e20 := zQ hV 20; have q0 := hS.1; have q1 := hS.2.1; have q2 := hS.2.2.1; go_simp; exact zO hK
              refine zS (fun w' hS hV K hK => ?_) ?_
              · have q0 := hS.1; have q1 := hS.2.1; have q2 := hS.2.2.1; go_simp; exact zO hK
              refine zS (fun w' hS hV K hK => ?_) ?_
              · have e21 := zQ hV 21; have e22 := zQ hV 22; have q0 := hS.1; have q1 := hS.2.1; have q2 := hS.2.2.1; go_simp; exact zO hK
              refine zS (fun w' hS hV K hK => ?_) ?_
              · have e2 := zQ hV 2; have e6 := zQ hV 6; have e10 := zQ hV 10; have e23 := zQ hV 23; have q0 := hS.1; have q1 := hS.2.1; have q2 := hS.2.2.1; go_simp; refine (l02Plus_any p _ n _ _ n _ ((p - y) * invF p xe % p) _ _ _ hp hp2 hn (Nat.le_refl _) (HRR.out.rd.below hS.2.2.2) HR1.out.2 (HRD.out.rd.below hS.2.2.2) HD1.out.2 (by omega) (by omega)).mono ?_; rintro e v1 ⟨A2, c2, rfl, hM⟩; exact hK.out _ _ _ rfl rfl ⟨_, _, rfl, hM.after hS.2.2.2⟩ hM.b
              refine zS (fun w' hS hV K hK => ?_) ?_
              · have e0 := zQ hV 0; have e1 := zQ hV 1; have q0 := hS.1; have q1 := hS.2.1; have q2 := hS.2.2.1; go_simp; exact zO hK
              refine fun w' hS hV => ?_
              have e0 := zT hV 0
              have e1 := zT hV 1
              have e2 := zT hV 2
              have e3 := zT hV 3
              have e4 := zT hV 4
              have e5 := zT hV 5
              have e6 := zT hV 6
              have e7 := zT hV 7
              have e8 := zT hV 8
              have e9 := zT hV 9
              have e10 := zT hV 10
              have e11 := zT hV 11
              have e12 := zT hV 12
              have e13 := zT hV 13
              have e14 := zT hV 14
              have e15 := zT hV 15
              have e16 := zT hV 16
              have e17 := zT hV 17
              have e18 := zT hV 18
              have e19 := zT hV 19
              have e20 := zT hV 20
              have e21 := zT hV 21
              have e22 := zT hV 22
              have e23 := zT hV 23
              obtain ⟨A24, c24, e24, h24⟩ := hV 24 (by decide)
              have e25 := zT hV 25
              simp only [e0, e1, e2, e3, e4, e5, e6, e7, e8, e9, e10, e11, e12, e13, e14, e15, e16, e17, e18, e19, e20, e21, e22, e23, e24, e25]
              clear e0 e1 e2 e3 e4 e5 e6 e7 e8 e9 e10 e11 e12 e13 e14 e15 e16 e17 e18 e19 e20 e21 e22 e23 e24 e25
              have hbn := hS.2.2.2
              have q0 := hS.1
              have ff := (HM4.out.below hbn).frozen_ r
              refine any_one (j := 26) (by kernel_rfl) (Eq.trans (by simp only [zA, zB, zC]; exact rfl) rfl) (fun K hK => ?_)
              go_simp
              refine hK.out _ _ (wpAny_done (by kernel_rfl) ?_ _)
              have hM5 := HM4.out.setRow h24 r
              have hM6 : MkII w (w'.setCell ⟨g, r, none⟩ (.slice A24 n c24)) (some ⟨g, 0, none⟩) n c1 (dClr p N i (r + 1)) := by
               rw [dClr_succ (by rw [HTS.out.2]; exact hlr) (by omega), HDR.out, plusL_mod p _ _ (k' := (p - y) * invF p xe % p) (by rw [Int.emod_emod_of_dvd _ (Int.dvd_refl _), Int.sub_mul, Int.neg_mul]; exact (mod_less p y (invF p xe)).symm)]
               exact hM5
              clear q0 ff hM5 h24 hbn hS hV
              go_wp2
              go_roundw
              case rel => exact ⟨r + 1, by omega, by omega, by go_num, hM6⟩
              case measure => simp [intOf]; omega
            · obtain rfl : r = n := by omega
              have HM4 := Lib.hid hM4
              clear hM4
              go_wp2
              go_roundw
              case rel => exact ⟨i + 1, o2 * xe % p, dClr p N i r, rfl, by go_num, by omega, HOX.out, HNXT, Lib.hid ⟨dClr_tab (by omega) HTS.out.1 _ _, by rw [dClr_len, HTS.out.2]⟩, HM4.out⟩
              case measure => simp [intOf]; omega
       · have hx0' : xe = 0 := by simpa using hz
         go_wp2
         go_round
         case rel => exact ⟨j + 1, by omega, by omega, by go_num, Lib.hid (by rw [← hj3.out, HPV.out, if_pos (by rw [HE.out]; exact hx0')])⟩
         case measure => simp [intOf]; omega
     · obtain rfl : j = n := by omega
       have HVP : Hid (pivOf L i i = j) := Lib.hid (by rw [← hj3.out, Nat.sub_self]; rfl)
       have HZ : Hid (detL p M = 0) := Lib.hid (by rw [HD.out, HSUC.out, detF_none (by rw [HVP.out, HT1.out.2])])
       go_wp2
       go_ret
       rw [HZ.out]
       exact ⟨rfl, HBB.out⟩
  · obtain rfl : i = n := by omega
    have HZ : Hid (detL p M = out) := Lib.hid (by rw [HD.out, Nat.sub_self]; rfl)
    go_wp2
    go_ret
    rw [HZ.out]
    exact ⟨rfl, HBB.out⟩
section
variable {w0 w w' : World} {A B : Option Addr} {n c m d : Nat} {xss yss : List (List Int)}
theorem MkII.blk_lt (h : MkII w0 w A n c xss) {g : Nat} (e : (Value.slice A n c).ownBlock = some g) : g < w.heap.size := by
 obtain ⟨rows, hm, _⟩ := h
 exact (World.ownsRow.lt hm.2 g e).2
end
/-- A matrix of the world ahead, or one made since then that lies apart from the list that grows. -/
def KM (w0 w : World) (L : Value) (A : Option Addr) (n c : Nat) (M : List (List Int)) : Prop := RdII w0 A n M ∨ (MkII w0 w A n c M ∧ ∀ g, L.ownBlock = some g → (Value.slice A n c).ownBlock ≠ some g)
section
variable {w0 w w' : World} {L : Value} {A B : Option Addr} {n c m d : Nat} {M : List (List Int)}
theorem KM.rd (h : KM w0 w L A n c M) (hb : Below w0.heap.size w0 w) : RdII w A n M := by
 rcases h with h | ⟨h, -⟩
 · exact h.below hb
 · exact h.rd
theorem KM.below (h : KM w0 w L A n c M) (hb : Below w.heap.size w w') : KM w0 w' L A n c M := by
 rcases h with h | ⟨h, hn⟩
 · exact .inl h
 · exact .inr ⟨h.below hb, hn⟩
theorem MkO.own_lt {xss : List (List Int)} (h : MkO w0 w B m d xss) {g : Nat} (e : (Value.slice B m d).ownBlock = some g) : w0.heap.size ≤ g ∧ g < w.heap.size := by
 obtain ⟨rows, hm, _⟩ := h
 exact World.ownsRow.lt hm.2 g e
/-- A matrix made since then that lies apart from the list that grows. -/
def KU (w0 w : World) (L : Value) (A : Option Addr) (n c : Nat) (M : List (List Int)) : Prop := MkII w0 w A n c M ∧ ∀ g, L.ownBlock = some g → (Value.slice A n c).ownBlock ≠ some g
theorem KU.below (h : KU w0 w L A n c M) (hb : Below w.heap.size w w') : KU w0 w' L A n c M := ⟨h.1.below hb, h.2⟩
theorem KU.app {xss : List (List Int)} {B' : Option Addr} {m' d' s : Nat} (h : KU w0 w (.slice B m d) A n c M) (hL : MkO w0 w B m d xss) (hg : w.grownBy w' (Value.slice B m d).ownBlock) (hb : Below w0.heap.size w0 w') (hs : w.heap.size ≤ s) (hat : ∃ g, B' = some ⟨g, 0, none⟩ ∧ ((Value.slice B m d).ownBlock = some g ∨ s ≤ g)) : KU w0 w' (.slice B' m' d') A n c M := by
 obtain ⟨h, hn⟩ := h
 have hlt : ∀ g, (Value.slice A n c).ownBlock = some g → g < w.heap.size := fun g e => h.blk_lt e
 obtain ⟨rows, hm, hne⟩ := h
 obtain ⟨rl, hl, _⟩ := hL
 refine ⟨⟨rows, ⟨hb, hm.2.grown hg ?_⟩, hne.grown hl.2 (by decide) hg⟩, fun g e => ?_⟩
 · cases hA : (Value.slice A n c).ownBlock with
   | none => exact .inl rfl
   | some g => exact .inr fun e => hn g e.symm hA
 · obtain ⟨g', rfl, hor⟩ := hat
   have e' : g' = g := by simpa [Value.ownBlock] using e
   subst e'
   rcases hor with h1 | h1
   · exact hn _ h1
   · intro e2
     have := hlt _ e2
     omega
/-- The list grows. -/
theorem KM.app {xss : List (List Int)} {B' : Option Addr} {m' d' s : Nat} (h : KM w0 w (.slice B m d) A n c M) (hL : MkO w0 w B m d xss) (hg : w.grownBy w' (Value.slice B m d).ownBlock) (hb : Below w0.heap.size w0 w') (hs : w.heap.size ≤ s) (hat : ∃ g, B' = some ⟨g, 0, none⟩ ∧ ((Value.slice B m d).ownBlock = some g ∨ s ≤ g)) : KM w0 w' (.slice B' m' d') A n c M := by
 rcases h with h | h
 · exact .inl h
 · exact .inr (KU.app h hL hg hb hs hat)
/-- A list of numbers that lies there stays. -/
theorem MkO.keepO {xss : List (List Int)} {B' : Nat} {A1 : Option Addr} {n1 c1 : Nat} {us : List Value} (hL : MkO w0 w B m d xss) (h : Own w B' 2 A1 n1 c1 us) (hg : w.grownBy w' (Value.slice B m d).ownBlock) : Own w' B' 2 A1 n1 c1 us := by
 obtain ⟨rows, hm, _⟩ := hL
 exact h.grown hg (h.ne hm.2 (by decide))
/-- A new matrix. -/
theorem KM.new {xss : List (List Int)} {w1 : World} (h : MkII w1 w A n c M) (hL : MkO w0 w1 B m d xss) (hb : Below w0.heap.size w0 w1) : KM w0 w (.slice B m d) A n c M := by
 right
 refine ⟨h.after hb, fun g e e2 => ?_⟩
 have h1 := (hL.own_lt e).2
 obtain ⟨rows, hm, _⟩ := h
 have h2 := (World.ownsRow.lt hm.2 g e2).1
 omega
end
/-- Two values appended at once. -/
theorem wpList_app2 {P : Program} {ops : Array Oper} {rest : List Oper} {o : Oper} {a : Act} {Q : Exit → Act → World → Prop} (w0 wr : World) (T E : TypeId) (z : Value) (bytes : Nat)
    (ht : P.underlying T = some (.slice E)) (hinfo : (P.info? E).map (fun i => (i.zero, i.size, i.bytes)) = some (some z, 1, bytes)) (hz : z.cells.size = 1) (hby : bytes ≤ 24)
    (hgd : o.guard = none) (s x : Operand) (ho : o.op = .call { callee := .builtin .append, args := #[s, x], argTypes := #[T, T] })
    (A : Option Addr) (n c : Nat) (us : List Value) (u v : Value) (hM : Mk w0 wr E A n c us) (hn : n ≤ 1099511627700) (hu : u.oneCell' = true) (hv : v.oneCell' = true)
    (hs : a.eval s = .slice A n c) (hx : a.eval x = .slice (some ⟨wr.heap.size, 0, none⟩) 2 2)
    (h : ∀ A' c' w', Mk w0 w' E A' (n + 2) c' (us ++ [u, v]) → wr.grownBy w' (Value.slice A n c).ownBlock → (∃ g, A' = some ⟨g, 0, none⟩ ∧ ((Value.slice A n c).ownBlock = some g ∨ wr.heap.size ≤ g)) →
     wpList P ops Q rest (a.put o.dst (.slice A' (n + 2) c')) w') :
    wpList P ops Q (o :: rest) a (wr.alloc (.cells #[u, v] E)) := by
 obtain ⟨i, hi, h1, h2, h3⟩ := info_parts hinfo
 obtain ⟨b1, b2⟩ := bound_of (show n + 2 ≤ 1099511627776 by omega)
 have hk : Blk (wr.alloc (.cells #[u, v] E)) wr.heap.size E #[u, v] := Blk.new _ _ _
 refine wpList_append_own_at (wr.alloc (.cells #[u, v] E)) hgd s x T ho w0.heap.size E i z 1 bytes ht hi h1 h2 h3 hz (by omega) (.slice A n c) n us hs (hM.alloc _).2 ⟨wr.heap.size, 0, none⟩ 2 2 [u, v] hx rfl
  (fun j y hy => by
   have hj : j < 2 := by
    rcases Nat.lt_or_ge j 2 with h | h
    · exact h
    · rw [List.getElem?_eq_none (by simpa using h)] at hy; simp at hy
   have := hk.cell j
   rw [Addr.add_lit, Nat.zero_add, this]
   simpa using hy)
  (by intro y hy; simp at hy; rcases hy with rfl | rfl <;> assumption) (by simp only [maxLen]; omega) (Nat.le_trans (Nat.mul_le_mul_right _ (by omega)) (b2 bytes hby)) (by have := hM.1.size; simp; omega) ?_
 intro v' w' hown hg _ hat
 have hg' : wr.grownBy w' (Value.slice A n c).ownBlock := World.grownBy.trans (World.grownBy_alloc wr _ _) hg
 rcases hown.2 with ⟨_, h0⟩ | ⟨g, cap, cur, rfl, hr⟩
 · omega
 · refine h _ _ _ ⟨hM.1.grown hg' hM.1.size (fun k hk => (hM.2.lt k hk).1), hown⟩ hg' ⟨g, rfl, ?_⟩
   rcases hat with he | he
   · exact .inl he.symm
   · right
     have : g = (wr.alloc (.cells #[u, v] E)).heap.size := by simpa [Value.ownBlock] using he
     simp at this; omega
/-- Two rows that lie there are appended. -/
theorem wpList_appTwoO {ops : Array Oper} {rest : List Oper} {o : Oper} {a : Act} {Q : Exit → Act → World → Prop} (w0 w1 : World)
    (hgd : o.guard = none) (s x : Operand) (ho : o.op = .call { callee := .builtin .append, args := #[s, x], argTypes := #[27, 27] })
    (A : Option Addr) (n c : Nat) (xss : List (List Int)) (A1 : Option Addr) (m c1 : Nat) (xs : List Int) (A2 : Option Addr) (l c2 : Nat) (ys : List Int) (hM : MkO w0 w1 A n c xss) (hr : Own w1 0 2 A1 m c1 (ints xs)) (hr2 : Own w1 0 2 A2 l c2 (ints ys)) (hn : n ≤ 1099511627700)
    (hs : a.eval s = .slice A n c) (hx : a.eval x = .slice (some ⟨w1.heap.size, 0, none⟩) 2 2)
    (h : ∀ A' c' w', MkO w0 w' A' (n + 2) c' (xss ++ [xs, ys]) → w1.grownBy w' (Value.slice A n c).ownBlock → (∃ g, A' = some ⟨g, 0, none⟩ ∧ ((Value.slice A n c).ownBlock = some g ∨ w1.heap.size ≤ g)) → wpList Tryz.prog ops Q rest (a.put o.dst (.slice A' (n + 2) c')) w') :
    wpList Tryz.prog ops Q (o :: rest) a (w1.alloc (.cells #[.slice A1 m c1, .slice A2 l c2] 24)) := by
 obtain ⟨rows, hm, hl, hrow⟩ := hM
 have hml : xs.length = m := by have := hr.len; rwa [ints_length] at this
 have hll : ys.length = l := by have := hr2.len; rwa [ints_length] at this
 subst hml
 subst hll
 refine wpList_app2 w0 w1 27 24 (.slice none 0 0) 24 Tryz.underlying27 info_s rfl (by omega) hgd s x ho A n c rows (.slice A1 xs.length c1) (.slice A2 ys.length c2) hm hn rfl rfl hs hx ?_
 intro A' c' w' hM' hg hat
 refine h A' c' w' ⟨_, hM', by simp [hl], fun k hk => ?_⟩ hg hat
 by_cases hlt : k < xss.length
 · obtain ⟨A3, c3, e, ho3⟩ := hrow k hlt
   simp only [List.getElem_append_left hlt]
   exact ⟨A3, c3, by rw [List.getElem?_append_left (by omega)]; exact e, ho3.grown hg (ho3.ne hm.2 (by decide))⟩
 · have hk2 : k = xss.length ∨ k = xss.length + 1 := by simp at hk; omega
   rcases hk2 with rfl | rfl
   · simp only [List.getElem_append_right (Nat.le_refl _), Nat.sub_self, List.getElem_cons_zero]
     exact ⟨A1, c1, by rw [List.getElem?_append_right (by omega), hl, Nat.sub_self]; rfl, hr.grown hg (hr.ne hm.2 (by decide))⟩
   · have e9 : xss.length + 1 - xss.length = 1 := by omega
     simp only [List.getElem_append_right (show xss.length ≤ xss.length + 1 by omega), e9, List.getElem_cons_succ, List.getElem_cons_zero]
     exact ⟨A2, c2, by rw [List.getElem?_append_right (by omega), hl, e9]; rfl, hr2.grown hg (hr2.ne hm.2 (by decide))⟩
/-- All rows have m numbers. -/
def Rect (m : Nat) (M : List (List Int)) : Prop := ∀ r ∈ M, r.length = m
theorem Rect.tab {p : Int} {m : Nat} {M : List (List Int)} (h : Rect m M) (hn : (M.all fun r => nums p r) = true) : Tab p m M := fun r hr => ⟨h r hr, nums_numsL (List.all_eq_true.1 hn r hr)⟩
theorem Rect.of_tab {p : Int} {m : Nat} {M : List (List Int)} (h : Tab p m M) : Rect m M := fun r hr => (h r hr).1
theorem numsL_nums {p : Int} {xs : List Int} (h : NumsL p xs) : nums p xs = true := List.all_eq_true.2 fun x hx => by have := h x hx; simp [inR]; omega
theorem frB_rect {P : Int} {n m : Nat} {M : List (List Int)} (h : Rect m M) (h0 : 0 < M.length) : frB P n M = ((M.all fun r => nums P r) && (decide (M.length = n) && decide (m = n))) := by
 rw [Bool.eq_iff_iff, frB_iff, Bool.and_eq_true, Bool.and_eq_true, decide_eq_true_iff, decide_eq_true_iff]
 constructor
 · intro ⟨h1, h2⟩
   exact ⟨List.all_eq_true.2 fun r hr => numsL_nums (h2 r hr).2, h1, by rw [← h _ (getD_mem [] h0)]; exact (h2.row h0).1⟩
 · intro ⟨h1, h2, h3⟩
   exact ⟨h2, h3 ▸ h.tab h1⟩
theorem all_takeR {p : Int} {M : List (List Int)} {k : Nat} (hk : k < M.length) (h : ((M.take k).all fun r => nums p r) = true) (h1 : nums p M[k] = true) : ((M.take (k + 1)).all fun r => nums p r) = true := by
 rw [List.take_succ_eq_append_getElem hk, List.all_append, h]; simp [h1]
theorem all_stop {p : Int} {M : List (List Int)} {k : Nat} (hk : k < M.length) (h1 : nums p M[k] = false) : (M.all fun r => nums p r) = false :=
 List.all_eq_false.2 ⟨M[k], List.getElem_mem hk, by simp [h1]⟩
set_option maxHeartbeats 1600000 in
set_option maxRecDepth 8000 in
theorem isTable_any (p : Int) (A : Option Addr) (n c : Nat) (M : List (List Int)) (m : Nat) (w : World) (hp0 : 0 < p) (hp1 : p ≤ 13) (hn : n ≤ 16) (hm1 : 1 ≤ m) (hm : m ≤ 16) (ha : RdII w A n M) (hT : Rect m M) :
    Calls Tryz.prog 158 #[.int .i64 p, .slice A n c] w fun e w' => e = .returned (.bool (M.all fun r => nums p r)) ∧ w = w' := by
 have HT := Lib.hid hT
 have HLN := Lib.hid ha.len
 have t1 : decide ((16 : Int) < (n : Int)) = false := by simp; omega
 have t2 : decide ((m : Int) < 1) = false := by simp; omega
 have t3 : decide ((16 : Int) < (m : Int)) = false := by simp; omega
 have t4 : ((m : Int) != (m : Int)) = false := by simp
 obtain ⟨R, hR⟩ : ∃ b, b = M.all fun r => nums p r := ⟨_, rfl⟩
 rw [← hR]
 have HR := Lib.hid hR
 clear hT hR
 go_enter Tryz.func158, Tryz.ntmps158
 go_wp2
 go_loopw [12] (fun i wr => ∃ k : Nat, k ≤ n ∧ i = .int .i64 k ∧ wr = w ∧ Hid (((M.take k).all fun r => nums p r) = true)) (fun i _ => n - (intOf i).toNat)
 case atStart => exact ⟨0, by omega, rfl, rfl, Lib.hid (by simp)⟩
 case round =>
  obtain ⟨k, hk, rfl, rfl, HK⟩ := hrel
  by_cases hlt : k < n
  · obtain ⟨g, o, rfl, hxk, A1, c1, hc1, hr1, -⟩ := ha.at_ hlt
    obtain ⟨g0, o0, e0, hx0, A0, c0, hc0, hr0, -⟩ := ha.at_ (show 0 < n by omega)
    cases e0
    have l1 := HT.out M[k] (List.getElem_mem hxk)
    have l0 := HT.out M[0] (List.getElem_mem hx0)
    rw [l1] at hc1 hr1
    rw [l0] at hc0
    rw [Nat.add_zero] at hc0
    obtain ⟨b, hb⟩ : ∃ b, b = nums p M[k] := ⟨_, rfl⟩
    have his := is_b p A1 m c1 M[k] wr (by omega) (by omega) (by omega) hr1 hb.symm
    have HB : Hid ((b = true → ((M.take (k + 1)).all fun r => nums p r) = true) ∧ (b = false → (M.all fun r => nums p r) = false)) := Lib.hid ⟨fun h => all_takeR hxk HK.out (by rw [← hb, h]), fun h => all_stop hxk (by rw [← hb, h])⟩
    clear hr1 hr0 l1 l0 ha hb
    go_wp2_with fail
    refine his.mono ?_
    rintro e w1 ⟨rfl, rfl⟩
    cases b
    · obtain rfl : R = false := by rw [HR.out, HB.out.2 rfl]
      clear HB
      go_wp2
      go_ret
      exact ⟨rfl, rfl⟩
    · have HB1 := Lib.hid (HB.out.1 rfl)
      clear HB
      go_wp2
      go_roundw
      case rel => exact ⟨k + 1, by omega, by go_num, by first | rfl | trivial, HB1⟩
      case measure => simp [intOf]; omega
  · obtain rfl : k = n := by omega
    have hr := HK.out
    rw [List.take_of_length_le (by rw [HLN.out]; omega)] at hr
    obtain rfl : R = true := HR.out.trans hr
    clear hr
    go_wp2
    go_ret
    exact ⟨rfl, rfl⟩
set_option maxHeartbeats 800000 in
set_option maxRecDepth 8000 in
theorem isMatrix_any (p : Int) (A : Option Addr) (n c : Nat) (M : List (List Int)) (m : Nat) (w : World) (hp0 : 0 < p) (hp1 : p ≤ 13) (hn0 : 0 < n) (hn : n ≤ 16) (hm1 : 1 ≤ m) (hm : m ≤ 16) (ha : RdII w A n M) (hT : Rect m M) :
    Calls Tryz.prog 195 #[.int .i64 p, .slice A n c] w fun e w' => e = .returned (.bool (M.all fun r => nums p r)) ∧ w = w' := by
 have h := isTable_any p A n c M m w hp0 hp1 hn hm1 hm ha hT
 have t1 : decide ((0 : Int) < (n : Int)) = true := by simp; omega
 obtain ⟨R, hR⟩ : ∃ b, b = M.all fun r => nums p r := ⟨_, rfl⟩
 rw [← hR] at h ⊢
 clear hT hR
 go_enter Tryz.func195, Tryz.ntmps195
 go_wp2_with fail
 refine h.mono ?_
 rintro e w1 ⟨rfl, rfl⟩
 go_wp2
 go_ret
 exact ⟨rfl, rfl⟩
set_option maxHeartbeats 1600000 in
set_option maxRecDepth 8000 in
theorem l02Is_any (p : Int) (A : Option Addr) (n c : Nat) (M : List (List Int)) (m : Nat) (w : World) (HP : isP p = true) (hn0 : 0 < n) (hn : n ≤ 16) (hm1 : 1 ≤ m) (hm : m ≤ 16) (ha : RdII w A n M) (hT : Rect m M) :
    Calls Tryz.prog 281 #[.int .i64 p, .slice A n c] w fun e w' => e = .returned (.bool (M.all fun r => nums p r)) ∧ Below w.heap.size w w' := by
 have HT := Lib.hid hT
 have HLN := Lib.hid ha.len
 have t1 : decide ((n : Int) < 1) = false := by simp; omega
 have t2 : decide ((16 : Int) < (n : Int)) = false := by simp; omega
 have t5 : decide ((m : Int) < 1) = false := by simp; omega
 have t3 : decide ((16 : Int) < (m : Int)) = false := by simp; omega
 have t4 : ((m : Int) != (m : Int)) = false := by simp
 have hpr := l01Prime_any p w
 rw [HP] at hpr
 obtain ⟨R, hR⟩ : ∃ b, b = M.all fun r => nums p r := ⟨_, rfl⟩
 rw [← hR]
 have HR := Lib.hid hR
 obtain ⟨g, o, rfl, hx0, A0, c0, hc00, -, -⟩ := ha.at_ hn0
 rw [HT.out M[0] (List.getElem_mem hx0), Nat.add_zero] at hc00
 have HA := Lib.hid ha
 obtain ⟨hp3, hp2⟩ := isP_ge HP
 have hc0 := hc00
 clear hT hR ha hx0 HP
 go_enter Tryz.func281, Tryz.ntmps281
 go_wp2_with fail
 refine hpr.mono ?_
 rintro e w1 ⟨rfl, rfl⟩
 clear hpr
 go_wp2
 go_loopw [5] (fun i wr => ∃ k : Nat, k ≤ n ∧ i = .int .i64 k ∧ Below w.heap.size w wr ∧ Hid (((M.take k).all fun r => nums p r) = true)) (fun i _ => n - (intOf i).toNat)
 case atStart => exact ⟨0, by omega, rfl, Below.refl _ _, Lib.hid (by simp)⟩
 case round =>
  obtain ⟨k, hk, rfl, hBw, HK⟩ := hrel
  clear hc0
  by_cases hlt : k < n
  · obtain ⟨g', o', e', hxk, A1, c1, hc1, hr1, -⟩ := (HA.out.below hBw).at_ hlt
    cases e'
    have hc0 := (hBw.cell (World.block_lt_of_cell? _ _ hc00)).trans hc00
    have l1 := HT.out M[k] (List.getElem_mem hxk)
    rw [l1] at hc1 hr1
    obtain ⟨b, hb⟩ : ∃ b, b = nums p M[k] := ⟨_, rfl⟩
    have HIS := Lib.hid fun (w' : World) (h : Below wr.heap.size wr w') => l01Numbers_any p A1 m c1 M[k] w' (by omega) (by omega) (by omega) (hr1.below h)
    rw [← hb] at HIS
    have HB : Hid ((b = true → ((M.take (k + 1)).all fun r => nums p r) = true) ∧ (b = false → (M.all fun r => nums p r) = false)) := Lib.hid ⟨fun h => all_takeR hxk HK.out (by rw [← hb, h]), fun h => all_stop hxk (by rw [← hb, h])⟩
    clear hr1 l1 hb hxk
    go_wp2
    refine wp_obs 19 [[],[],[0,1],[0,1,2],[0,1,2,3],[],[5],[5,6],[5,6,7],[0,1,2,3,4,5,6,7,8],[0,1,2,3,4,5,6,7,8,9],[0,1,2,3,4,5,6,7,8,9,10],[0,1,2,3,4,5,6,7,8,9,10],[0,1,2,3,4,5,6,7,8,9,10],[0,1,2,3,4,5,6,7,8,9,10,12,13],[0,1,2,3,4,5,6,7,8,9,10,12,13,14],[0,1,2,3,4,5,6,7,8,9,10,11,12,13,14,15],[0,1,2,3,4,5,6,7,8,9,10,11,12,13,14,15,16],[0,1,2,3,4,5,6,7,8,9,10,11,12,13,14,15,16,17]] [VIs (.slice (some ⟨g, o, none⟩) n c), VIs (.int .i64 (k)), VIs (.pointer (some ⟨g, o + k, none⟩)), VIs (.slice A1 m c1), VIs (.int .i64 (m)), VIs (.slice (some ⟨g, o, none⟩) n c), VIs (.pointer (some ⟨g, o, none⟩)), VIs (.slice A0 m c0), VIs (.int .i64 (m)), VIs (.bool false), VIs (.bool false), VIs (.int .i64 (p)), VIs (.slice (some ⟨g, o, none⟩) n c), VIs (.int .i64 (k)), VIs (.pointer (some ⟨g, o + k, none⟩)), VIs (.slice A1 m c1), VIs (.bool b), VIs (.bool !b), VIs (.bool !b)] (fun w' => w'.cell? ⟨g, o + k, none⟩ = some (.slice A1 m c1) ∧ w'.cell? ⟨g, o, none⟩ = some (.slice A0 m c0) ∧ Below wr.heap.size wr w') (by kernel_rfl) (by kernel_rfl) (fun _ _ h hb => ⟨(hb.cell (World.block_lt_of_cell? _ _ h.1)).trans h.1, (hb.cell (World.block_lt_of_cell? _ _ h.2.1)).trans h.2.1, h.2.2.trans (hb.mono h.2.2.size)⟩) (⟨hc1, hc0, zG.drew⟩) (fun x => ?_)
    refine zS (fun w' hS hV K hK => ?_) ?_
    · have q0 := hS.1; have q1 := hS.2.1; go_simp; exact zO hK
    refine zS (fun w' hS hV K hK => ?_) ?_
    · have q0 := hS.1; have q1 := hS.2.1; go_simp; exact zO hK
    refine zS (fun w' hS hV K hK => ?_) ?_
    · have e0 := zQ hV 0; have e1 := zQ hV 1; have q0 := hS.1; have q1 := hS.2.1; go_simp; exact zO hK
    refine zS (fun w' hS hV K hK => ?_) ?_
    · have e2 := zQ hV 2; have q0 := hS.1; have q1 := hS.2.1; go_simp; exact zO hK
    refine zS (fun w' hS hV K hK => ?_) ?_
    · have e3 := zQ hV 3; have q0 := hS.1; have q1 := hS.2.1; go_simp; exact zO hK
    refine zS (fun w' hS hV K hK => ?_) ?_
    · have q0 := hS.1; have q1 := hS.2.1; go_simp; exact zO hK
    refine zS (fun w' hS hV K hK => ?_) ?_
    · have e5 := zQ hV 5; have q0 := hS.1; have q1 := hS.2.1; go_simp; exact zO hK
    refine zS (fun w' hS hV K hK => ?_) ?_
    · have e6 := zQ hV 6; have q0 := hS.1; have q1 := hS.2.1; go_simp; exact zO hK
    refine zS (fun w' hS hV K hK => ?_) ?_
    · have e7 := zQ hV 7; have q0 := hS.1; have q1 := hS.2.1; go_simp; exact zO hK
    refine zS (fun w' hS hV K hK => ?_) ?_
    · have e4 := zQ hV 4; have e8 := zQ hV 8; have q0 := hS.1; have q1 := hS.2.1; go_simp; exact zO hK
    refine zS (fun w' hS hV K hK => ?_) ?_
    · have e9 := zQ hV 9; have q0 := hS.1; have q1 := hS.2.1; go_simp; exact zO hK
    refine zS (fun w' hS hV K hK => ?_) ?_
    · have e10 := zQ hV 10; have q0 := hS.1; have q1 := hS.2.1; go_simp; exact zO hK
    refine zS (fun w' hS hV K hK => ?_) ?_
    · have e10 := zQ hV 10; have q0 := hS.1; have q1 := hS.2.1; go_simp; exact zO hK
    refine zS (fun w' hS hV K hK => ?_) ?_
    · have e10 := zQ hV 10; have q0 := hS.1; have q1 := hS.2.1; go_simp; exact zO hK
    refine zS (fun w' hS hV K hK => ?_) ?_
    · have e10 := zQ hV 10; have e12 := zQ hV 12; have e13 := zQ hV 13; have q0 := hS.1; have q1 := hS.2.1; go_simp; exact zO hK
    refine zS (fun w' hS hV K hK => ?_) ?_
    · have e10 := zQ hV 10; have e14 := zQ hV 14; have q0 := hS.1; have q1 := hS.2.1; go_simp; exact zO hK
    refine zS (fun w' hS hV K hK => ?_) ?_
    · have e10 := zQ hV 10; have e11 := zQ hV 11; have e15 := zQ hV 15; have q0 := hS.1; have q1 := hS.2.1; go_simp; refine (HIS.out _ hS.2.2).mono ?_; rintro e v1 ⟨rfl, rfl⟩; exact zO hK
    refine zS (fun w' hS hV K hK => ?_) ?_
    · have e10 := zQ hV 10; have e16 := zQ hV 16; have q0 := hS.1; have q1 := hS.2.1; go_simp; exact zO hK
    refine zS (fun w' hS hV K hK => ?_) ?_
    · have e10 := zQ hV 10; have e17 := zQ hV 17; have q0 := hS.1; have q1 := hS.2.1; go_simp; exact zO hK
    refine fun w' hS hV => ?_
    have e0 := zT hV 0
    have e1 := zT hV 1
    have e2 := zT hV 2
    have e3 := zT hV 3
    have e4 := zT hV 4
    have e5 := zT hV 5
    have e6 := zT hV 6
    have e7 := zT hV 7
    have e8 := zT hV 8
    have e9 := zT hV 9
    have e10 := zT hV 10
    have e11 := zT hV 11
    have e12 := zT hV 12
    have e13 := zT hV 13
    have e14 := zT hV 14
    have e15 := zT hV 15
    have e16 := zT hV 16
    have e17 := zT hV 17
    have e18 := zT hV 18
    simp only [e0, e1, e2, e3, e4, e5, e6, e7, e8, e9, e10, e11, e12, e13, e14, e15, e16, e17, e18]
    clear e0 e1 e2 e3 e4 e5 e6 e7 e8 e9 e10 e11 e12 e13 e14 e15 e16 e17 e18
    refine wpAny_done (by kernel_rfl) ?_ _
    have hB5 := hBw.trans (hS.2.2.mono hBw.size)
    clear hS hBw hc1 hc0
    cases b
    · obtain rfl : R = false := by rw [HR.out, HB.out.2 rfl]
      clear HB
      go_wp2
      go_ret
      exact ⟨rfl, hB5⟩
    · have HB1 := Lib.hid (HB.out.1 rfl)
      clear HB
      go_wp2
      go_roundw
      case rel => exact ⟨k + 1, by omega, by go_num, hB5, HB1⟩
      case measure => simp [intOf]; omega
  · obtain rfl : k = n := by omega
    have hr := HK.out
    rw [List.take_of_length_le (by rw [HLN.out]; omega)] at hr
    obtain rfl : R = true := HR.out.trans hr
    clear hr
    go_wp2
    go_ret
    exact ⟨rfl, hBw⟩
section
variable {P : Int} {sq : List Int} {M : List (List Int)}
/-- The number that is 0 at each two places of a skew matrix. -/
def skZ (P : Int) (sq : List Int) (M : List (List Int)) (i k : Nat) : Int := (sq.getD k 0 * ent M k i + sq.getD i 0 * ent M i k) % P
def skTo (P : Int) (sq : List Int) (M : List (List Int)) (n i k : Nat) : Prop := (∀ a, a < i → ∀ b, b < n → skZ P sq M a b = 0) ∧ ∀ b, b < k → skZ P sq M i b = 0
theorem skTo.next {n i k : Nat} (h : skTo P sq M n i k) (h0 : skZ P sq M i k = 0) : skTo P sq M n i (k + 1) := ⟨h.1, fun b hb => by
 rcases Nat.lt_or_ge b k with h1 | h1
 · exact h.2 b h1
 · obtain rfl : b = k := by omega
   exact h0⟩
/-- The product of two columns, and what it is for an isometry. -/
def colP (P : Int) (sq : List Int) (M : List (List Int)) (i k : Nat) : Int := pairL P sq ((transL M).getD i []) ((transL M).getD k [])
def colW (sq : List Int) (i k : Nat) : Int := if i = k then sq.getD i 0 else 0
def isTo (P : Int) (sq : List Int) (M : List (List Int)) (f : Nat → Nat) (i k : Nat) : Prop := (∀ a, a < i → ∀ b, b < f a → colP P sq M a b = colW sq a b) ∧ ∀ b, b < k → colP P sq M i b = colW sq i b
theorem isTo.next {f : Nat → Nat} {i k : Nat} (h : isTo P sq M f i k) (h0 : colP P sq M i k = colW sq i k) : isTo P sq M f i (k + 1) := ⟨h.1, fun b hb => by
 rcases Nat.lt_or_ge b k with h1 | h1
 · exact h.2 b h1
 · obtain rfl : b = k := by omega
   exact h0⟩
theorem isTo.row {f : Nat → Nat} {i k : Nat} (h : isTo P sq M f i k) (hk : k = f i) : isTo P sq M f (i + 1) 0 := ⟨fun a ha b hb => by
 rcases Nat.lt_or_ge a i with h1 | h1
 · exact h.1 a h1 b hb
 · obtain rfl : a = i := by omega
   exact h.2 b (by omega), fun b hb => absurd hb (by omega)⟩
theorem colP_comm (hp : 0 < P) (hT : Tab P sq.length M) (hl : M.length = sq.length) {i k : Nat} (hi : i < sq.length) (hk : k < sq.length) : colP P sq M i k = colP P sq M k i := by
 refine cg_eq (pairL_range hp _ _) (pairL_range hp _ _) ?_
 unfold colP
 rw [pairL_bil (trans_row hp hT hl hi).1, pairL_bil (trans_row hp hT hl hk).1, bil_symm]
theorem isTo.full (h : isTo P sq M (fun _ => sq.length) sq.length 0) (hf : frB P sq.length M = true) (hd : detL P M ≠ 0) : isoB P sq M = true := by
 unfold isoB
 rw [hf, decide_eq_true hd, Bool.true_and, Bool.true_and, decide_eq_true_iff]
 exact fun i hi k hk => h.1 i hi k hk
theorem isTo.half (h : isTo P sq M (fun a => a + 1) sq.length 0) (hp : 0 < P) (hf : frB P sq.length M = true) (hd : detL P M ≠ 0) : isoB P sq M = true := by
 obtain ⟨hl, hT⟩ := frB_iff.1 hf
 unfold isoB
 rw [hf, decide_eq_true hd, Bool.true_and, Bool.true_and, decide_eq_true_iff]
 intro i hi k hk
 rcases Nat.lt_or_ge k (i + 1) with h1 | h1
 · exact h.1 i hi k h1
 · have e := colP_comm hp hT hl hi hk
   show colP P sq M i k = _
   rw [e, h.1 k hk i (show i < k + 1 by omega)]
   unfold colW
   rw [if_neg (by omega), if_neg (by omega)]
theorem is_stop {i k : Nat} (hi : i < sq.length) (hk : k < sq.length) (h0 : colP P sq M i k ≠ colW sq i k) : isoB P sq M = false := by
 unfold isoB
 rw [Bool.and_eq_false_iff]
 right
 rw [Bool.and_eq_false_iff]
 right
 rw [decide_eq_false_iff_not]
 exact fun h => h0 (h i hi k hk)
theorem is_det (h0 : detL P M = 0) : isoB P sq M = false := by
 unfold isoB
 rw [Bool.and_eq_false_iff]
 right
 rw [Bool.and_eq_false_iff]
 left
 rw [decide_eq_false_iff_not]
 exact fun h => h h0
theorem is_frame (h0 : frB P sq.length M = false) : isoB P sq M = false := by unfold isoB; rw [h0]; rfl
end
set_option maxHeartbeats 6400000 in
set_option maxRecDepth 8000 in
theorem determinant_any (p : Int) (A : Option Addr) (n c : Nat) (M : List (List Int)) (w : World) (HP : isP p = true) (h0 : 0 < n) (hn : n ≤ 65536) (ha : RdII w A n M) (hT : Tab p n M) :
    Calls Tryz.prog 131 #[.int .i64 p, .slice A n c] w fun e w' => e = .returned (.int .i64 (detL p M)) ∧ Below w.heap.size w w' := by
 have hML := ha.len
 obtain ⟨hp3, hp2⟩ := isP_ge HP
 have hp : 2 ≤ p := by omega
 have HP' := Lib.hid HP
 have hclone := cloneRows_any p A n c M n w hn hn ha hT
 have HST : Hid (detL p M = detF p n M 0 1) := Lib.hid (by unfold detL; rw [hML])
 have HT := Lib.hid (And.intro hT hML)
 clear hT HP ha
 go_enter Tryz.func131, Tryz.ntmps131
 go_wp2_with fail
 refine hclone.mono ?_
 rintro e w1 ⟨A1, c1, rfl, hM1⟩
 clear hclone hML
 obtain ⟨g, rfl, -⟩ := hM1.at_ h0
 go_wp2
 go_loopw [6, 14] (fun o q wr => ∃ (i : Nat) (out : Int) (L : List (List Int)), o = .int .i64 out ∧ q = .int .i64 i ∧ i ≤ n ∧ (0 ≤ out ∧ out < p) ∧ Hid (detL p M = detF p (n - i) L i out) ∧ Hid (Tab p n L ∧ L.length = n) ∧ MkII w wr (some ⟨g, 0, none⟩) n c1 L) (fun _ q _ => n - (intOf q).toNat)
 case atStart => exact ⟨0, 1, M, rfl, rfl, by omega, by omega, Lib.hid (by rw [HST.out]; rfl), HT, hM1⟩
 case round =>
  obtain ⟨i, out, L, rfl, rfl, hin, hob, HD, HT1, hM⟩ := hrel
  clear hM1 HST HT
  have HM := Lib.hid hM
  have HBB := Lib.hid hM.b
  clear hM
  by_cases hli : i < n
  · have HSUC : Hid (detF p (n - i) L i out = detF p ((n - (i + 1)) + 1) L i out) := Lib.hid (by rw [show n - i = (n - (i + 1)) + 1 by omega])
    go_wp2
    go_loop [8] (fun q => ∃ j : Nat, i ≤ j ∧ j ≤ n ∧ q = .int .i64 j ∧ Hid (piv L i (n - j) j = pivOf L i i)) (fun q => n - (intOf q).toNat)
    case atStart => exact ⟨i, by omega, by omega, rfl, Lib.hid (by unfold pivOf; rw [HT1.out.2])⟩
    case round =>
     obtain ⟨j, hj1, hj2, rfl, hj3⟩ := hrel
     by_cases hlj : j < n
     · obtain ⟨g0, e0, hxj, Aj, cj, hcj, hrj⟩ := HM.out.at_ hlj
       injection e0 with e0; injection e0 with e0 _ _; subst e0
       have HRJ := Lib.hid (HT1.out.1 L[j] (List.getElem_mem hxj))
       have hlj2 : L[j].length = n := HRJ.out.1
       rw [hlj2] at hcj hrj
       obtain ⟨gj, oj, rfl, hxe, hce⟩ := hrj.rd.int hli
       have HE : Hid (ent L j i = L[j][i]) := Lib.hid (ent_at' hxj hxe)
       have HPV : Hid (piv L i (n - j) j = if ent L j i = 0 then piv L i (n - (j + 1)) (j + 1) else j) := Lib.hid (by
        rw [show n - j = (n - (j + 1)) + 1 by omega]; rfl)
       have HROW : Hid ((swapL L i j)[i]? = some L[j]) := Lib.hid (by
        rw [swapL_get? L (by rw [HT1.out.2]; exact hli) hxj]
        by_cases hdj : i = j
        · subst hdj; rw [if_pos rfl]; exact List.getElem?_eq_getElem hxj
        · rw [if_neg hdj, if_pos rfl]; exact List.getElem?_eq_getElem hxj)
       have HTS : Hid (Tab p n (swapL L i j) ∧ (swapL L i j).length = n) := Lib.hid ⟨swapL_tab HT1.out.1 (by rw [HT1.out.2]; exact hli) hxj, by rw [swapL_len, HT1.out.2]⟩
       obtain ⟨R, hR⟩ : ∃ R, R = L[j] := ⟨_, rfl⟩
       have HXE : Hid (∀ h : i < R.length, R[i] = L[j][i]) := Lib.hid (fun h => by simp only [hR])
       rw [← hR] at hrj HRJ HROW
       clear hlj2
       obtain ⟨xe, hxe'⟩ : ∃ x, x = L[j][i] := ⟨_, rfl⟩
       rw [← hxe'] at hce HE HXE
       have HX : Hid (0 ≤ xe ∧ xe < p) := Lib.hid (hxe' ▸ ((HT1.out.1 L[j] (List.getElem_mem hxj)).2 _ (List.getElem_mem hxe)))
       clear hxe' hxe hR hxj
       cases hz : (xe == 0)
       · have hne : xe ≠ 0 := by simpa using hz
         have HVP : Hid (pivOf L i i = j) := Lib.hid (by rw [← hj3.out, HPV.out, if_neg (by rw [HE.out]; exact hne)])
         have HEI : Hid (ent (swapL L i j) i i = xe) := Lib.hid (by
          have h1 := HROW.out
          have e1 : (swapL L i j).getD i [] = R := by rw [List.getD_eq_getElem?_getD, h1]; rfl
          have hl : i < R.length := by rw [HRJ.out.1]; exact hli
          unfold ent
          rw [e1, getD_of_lt 0 hl, HXE.out hl])
         have HNX : Hid (detL p M = detF p (n - (i + 1)) (dClr p (swapL L i j) i n) (i + 1) ((if j = i then out else (-out) % p) * xe % p)) := Lib.hid (by
          rw [HD.out, HSUC.out, detF_step (by rw [HVP.out, HT1.out.2]; omega), HVP.out, HEI.out, HT1.out.2])
         have hx1 := HX.out
         have hiv := invF_small hp xe
         have tj : ((j : Int) == (n : Int)) = false := by simp; omega
         by_cases hij : j = i
         · obtain rfl := hij
           have t2 : ((j : Int) != (j : Int)) = false := by simp
           have HSM : Hid (swapL L j j = L) := Lib.hid (swapL_same L (by rw [HT1.out.2]; exact hli))
           have HM2 := Lib.hid (show MkII w wr (some ⟨g, 0, none⟩) n c1 (swapL L j j) by rw [HSM.out]; exact HM.out)
           clear hrj hcj hce HSM
           obtain ⟨N, hN⟩ : ∃ N, N = swapL L j j := ⟨_, rfl⟩
           rw [← hN] at HM2 HTS HEI HNX HROW
           obtain ⟨o2, ho2⟩ : ∃ o2, o2 = out := ⟨_, rfl⟩
           have HO2 : Hid (0 ≤ o2 ∧ o2 < p) := Lib.hid (by rw [ho2]; exact hob)
           have HNXT : Hid (detL p M = detF p (n - (j + 1)) (dClr p N j n) (j + 1) (o2 * xe % p)) := Lib.hid (by rw [HNX.out, if_pos rfl, ho2])
           rw [← ho2]
           clear hN ho2 HNX
           obtain ⟨g0, e0, hxs, As, cs, hcs2, hrs⟩ := HM2.out.at_ hli
           injection e0 with e0; injection e0 with e0 _ _; subst e0
           have hrow : N[j] = R := by have := HROW.out; rw [List.getElem?_eq_getElem hxs] at this; exact Option.some.inj this
           rw [hrow] at hcs2 hrs
           have hRl := HRJ.out.1
           rw [hRl] at hcs2 hrs
           obtain ⟨gs, os, rfl, hxe2, hce2⟩ := hrs.rd.int hli
           rw [HXE.out hxe2] at hce2
           clear hrs hrow hxe2 hxs hRl
           have hob2 := HO2.out
           have hmb := mul_b (a := o2) (b := xe) (by omega) (by omega)
           have hw1 := i64_small (x := o2 * xe) (by omega) (by omega)
           have hnum := fun w' => num_any p (o2 * xe) w' (by omega) hp2 (by omega) (by omega)
           go_wp2_with fail
           refine (hnum _).mono ?_
           rintro e w5 ⟨rfl, rfl⟩
           clear hnum hce2 hcs2
           have HM3 := Lib.hid (show MkII w wr (some ⟨g, 0, none⟩) n c1 (dClr p N j (j + 1)) by rw [dClr_start]; exact HM2.out)
           have HOX : Hid (0 ≤ o2 * xe % p ∧ o2 * xe % p < p) := Lib.hid ⟨Int.emod_nonneg _ (by omega), Int.emod_lt_of_pos _ (by omega)⟩
           clear HM2 HM
           go_wp2
           go_loopw [9] (fun q w4 => ∃ r : Nat, j + 1 ≤ r ∧ r ≤ n ∧ q = .int .i64 r ∧ MkII w w4 (some ⟨g, 0, none⟩) n c1 (dClr p N j r)) (fun q _ => n - (intOf q).toNat)
           case atStart => exact ⟨j + 1, by omega, by omega, by go_num, HM3.out⟩
           case round =>
            obtain ⟨r, hr1, hr2, rfl, hM4⟩ := hrel
            clear HM3
            by_cases hlr : r < n
            · have hT4 : Tab p n (dClr p N j r) := dClr_tab (by omega) HTS.out.1 j r
              have hr4 : (dClr p N j r).getD r [] = N.getD r [] := by rw [dClr_getD (by rw [HTS.out.2]; exact hlr), if_neg (by omega)]
              have hd4 : (dClr p N j r).getD j [] = N.getD j [] := by rw [dClr_getD (by rw [HTS.out.2]; exact hli), if_neg (by omega)]
              obtain ⟨g0, e0, hxr, Ar, cr, hcr, hrr⟩ := hM4.at_ hlr
              injection e0 with e0; injection e0 with e0 _ _; subst e0
              obtain ⟨g0, e0, hxd, Ad2, cd2, hcd2, hrd2⟩ := hM4.at_ hli
              injection e0 with e0; injection e0 with e0 _ _; subst e0
              have HR1 := Lib.hid (hT4 _ (List.getElem_mem hxr))
              have HD1 := Lib.hid (hT4 _ (List.getElem_mem hxd))
              have hl1 := HR1.out.1
              have hl2 := HD1.out.1
              rw [getD_of_lt [] hxr] at hr4
              rw [getD_of_lt [] hxd] at hd4
              rw [hl1] at hcr hrr
              rw [hl2] at hcd2 hrd2
              rw [hr4] at hrr HR1
              rw [hd4] at hrd2 HD1
              obtain ⟨gr, or', rfl, hxy, hcy⟩ := hrr.rd.int hli
              obtain ⟨gd, od, rfl, hxz, hcz⟩ := hrd2.rd.int hli
              have hey : ent N r j = (N.getD r [])[j] := by unfold ent; rw [getD_of_lt 0 hxy]
              have hez : (N.getD j [])[j] = xe := by rw [← HEI.out]; unfold ent; rw [getD_of_lt 0 hxz]
              obtain ⟨y, hy⟩ : ∃ y, y = (N.getD r [])[j] := ⟨_, rfl⟩
              have hyb : 0 ≤ y ∧ y < p := hy ▸ HR1.out.2 _ (List.getElem_mem hxy)
              rw [← hy] at hcy hey
              rw [hez] at hcz
              have HDR : Hid (dRow p N j r = plusL p (N.getD r []) (N.getD j []) (-y * invF p xe)) := Lib.hid (by unfold dRow; rw [hey, HEI.out])
              have HM4 := Lib.hid hM4
              have HRR := Lib.hid hrr
              have HRD := Lib.hid hrd2
              clear hy hT4 hr4 hd4 hl1 hl2 hxr hxd hxy hxz hey hez hM4 hrr hrd2
              have hmy := mul_b (a := y) (b := invF p xe) (by omega) (by omega)
              have hneg : -y * invF p xe = -(y * invF p xe) := Int.neg_mul _ _
              have hwy := i64_small (x := -y) (by omega) (by omega)
              have hmy2 : y * invF p xe ≤ 144 := by
               have h9 := Int.mul_le_mul (show y ≤ 12 by omega) (show invF p xe ≤ 12 by omega) hiv.1 (by omega : (0 : Int) ≤ 12)
               omega
              have hwm := i64_small (x := -y * invF p xe) (by omega) (by omega)
              have hk1 : -1000 ≤ -y * invF p xe := by omega
              have hk2 : -y * invF p xe ≤ 1000 := by omega
              have HK := Lib.hid (And.intro hk1 hk2)
              clear hneg hmy hmy2 hk1 hk2
              go_wp2
              refine wp_obs 31 [[],[],[],[],[],[3,4],[3,4,5],[],[],[7,8],[7,8,9],[],[],[11,12],[11,12,13],[],[11,12,13,14,15],[11,12,13,14,15,16],[11,12,13,14,15,16,17],[],[],[],[20,21],[20,21,22],[],[20,21,22,23,24],[20,21,22,23,24,25],[19,20,21,22,23,24,25,26],[11,12,13,14,15,16,17,18,19,20,21,22,23,24,25,26,27],[2,3,4,5,6,7,8,9,10,11,12,13,14,15,16,17,18,19,20,21,22,23,24,25,26,27,28],[0,1],[0,1,2,3,4,5,6,7,8,9,10,11,12,13,14,15,16,17,18,19,20,21,22,23,24,25,26,27,28,29,30]] [VIs (.slice (some ⟨g, 0, none⟩) n c1), VIs (.int .i64 (r)), VIs (.int .i64 (p)), VIs (.slice (some ⟨g, 0, none⟩) n c1), VIs (.int .i64 (r)), VIs (.pointer (some ⟨g, r, none⟩)), VIs (.slice (some ⟨gr, or', none⟩) n cr), VIs (.slice (some ⟨g, 0, none⟩) n c1), VIs (.int .i64 (j)), VIs (.pointer (some ⟨g, j, none⟩)), VIs (.slice (some ⟨gd, od, none⟩) n cd2), VIs (.slice (some ⟨g, 0, none⟩) n c1), VIs (.int .i64 (r)), VIs (.pointer (some ⟨g, r, none⟩)), VIs (.slice (some ⟨gr, or', none⟩) n cr), VIs (.int .i64 (j)), VIs (.pointer (some ⟨gr, or' + j, none⟩)), VIs (.int .i64 (y)), VIs (.int .i64 (-y)), VIs (.int .i64 (p)), VIs (.slice (some ⟨g, 0, none⟩) n c1), VIs (.int .i64 (j)), VIs (.pointer (some ⟨g, j, none⟩)), VIs (.slice (some ⟨gd, od, none⟩) n cd2), VIs (.int .i64 (j)), VIs (.pointer (some ⟨gd, od + j, none⟩)), VIs (.int .i64 (xe)), VIs (.int .i64 (invF p xe)), VIs (.int .i64 (-y * invF p xe)), VSl wr n (plusL p (N.getD r []) (N.getD j []) (-y * invF p xe)), VIs (.pointer (some ⟨g, r, none⟩))] (fun w' => w'.cell? ⟨g, r, none⟩ = some (.slice (some ⟨gr, or', none⟩) n cr) ∧ w'.cell? ⟨g, j, none⟩ = some (.slice (some ⟨gd, od, none⟩) n cd2) ∧ w'.cell? ⟨gr, or' + j, none⟩ = some (.int .i64 y) ∧ w'.cell? ⟨gd, od + j, none⟩ = some (.int .i64 xe) ∧ Below wr.heap.size wr w') (by kernel_rfl) (by kernel_rfl) (fun _ _ h hb => ⟨(hb.cell (World.block_lt_of_cell? _ _ h.1)).trans h.1, (hb.cell (World.block_lt_of_cell? _ _ h.2.1)).trans h.2.1, (hb.cell (World.block_lt_of_cell? _ _ h.2.2.1)).trans h.2.2.1, (hb.cell (World.block_lt_of_cell? _ _ h.2.2.2.1)).trans h.2.2.2.1, h.2.2.2.2.trans (hb.mono h.2.2.2.2.size)⟩) (⟨hcr, hcd2, hcy, hcz, zG.drew⟩) (fun x => ?_)
              refine zS (fun w' hS hV K hK => ?_) ?_
              · have q0 := hS.1; have q1 := hS.2.1; have q2 := hS.2.2.1; have q3 := hS.2.2.2.1; go_simp; exact zO hK
              refine zS (fun w' hS hV K hK => ?_) ?_
              · have q0 := hS.1; have q1 := hS.2.1; have q2 := hS.2.2.1; have q3 := hS.2.2.2.1; go_simp; exact zO hK
              refine zS (fun w' hS hV K hK => ?_) ?_
              · have q0 := hS.1; have q1 := hS.2.1; have q2 := hS.2.2.1; have q3 := hS.2.2.2.1; go_simp; exact zO hK
              refine zS (fun w' hS hV K hK => ?_) ?_
              · have q0 := hS.1; have q1 := hS.2.1; have q2 := hS.2.2.1; have q3 := hS.2.2.2.1; go_simp; exact zO hK
              refine zS (fun w' hS hV K hK => ?_) ?_
              · have q0 := hS.1; have q1 := hS.2.1; have q2 := hS.2.2.1; have q3 := hS.2.2.2.1; go_simp; exact zO hK
              refine zS (fun w' hS hV K hK => ?_) ?_
              · have e3 := zQ hV 3; have e4 := zQ hV 4; have q0 := hS.1; have q1 := hS.2.1; have q2 := hS.2.2.1; have q3 := hS.2.2.2.1; go_simp; exact zO hK
              refine zS (fun w' hS hV K hK => ?_) ?_
              · have e5 := zQ hV 5; have q0 := hS.1; have q1 := hS.2.1; have q2 := hS.2.2.1; have q3 := hS.2.2.2.1; go_simp; exact zO hK
              refine zS (fun w' hS hV K hK => ?_) ?_
              · have q0 := hS.1; have q1 := hS.2.1; have q2 := hS.2.2.1; have q3 := hS.2.2.2.1; go_simp; exact zO hK
              refine zS (fun w' hS hV K hK => ?_) ?_
              · have q0 := hS.1; have q1 := hS.2.1; have q2 := hS.2.2.1; have q3 := hS.2.2.2.1; go_simp; exact zO hK
              refine zS (fun w' hS hV K hK => ?_) ?_
              · have e7 := zQ hV 7; have e8 := zQ hV 8; have q0 := hS.1; have q1 := hS.2.1; have q2 := hS.2.2.1; have q3 := hS.2.2.2.1; go_simp; exact zO hK
              refine zS (fun w' hS hV K hK => ?_) ?_
              · have e9 := zQ hV 9; have q0 := hS.1; have q1 := hS.2.1; have q2 := hS.2.2.1; have q3 := hS.2.2.2.1; go_simp; exact zO hK
              refine zS (fun w' hS hV K hK => ?_) ?_
              · have q0 := hS.1; have q1 := hS.2.1; have q2 := hS.2.2.1; have q3 := hS.2.2.2.1; go_simp; exact zO hK
              refine zS (fun w' hS hV K hK => ?_) ?_
              · have q0 := hS.1; have q1 := hS.2.1; have q2 := hS.2.2.1; have q3 := hS.2.2.2.1; go_simp; exact zO hK
              refine zS (fun w' hS hV K hK => ?_) ?_
              · have e11 := zQ hV 11; have e12 := zQ hV 12; have q0 := hS.1; have q1 := hS.2.1; have q2 := hS.2.2.1; have q3 := hS.2.2.2.1; go_simp; exact zO hK
              refine zS (fun w' hS hV K hK => ?_) ?_
              · have e13 := zQ hV 13; have q0 := hS.1; have q1 := hS.2.1; have q2 := hS.2.2.1; have q3 := hS.2.2.2.1; go_simp; exact zO hK
              refine zS (fun w' hS hV K hK => ?_) ?_
              · have q0 := hS.1; have q1 := hS.2.1; have q2 := hS.2.2.1; have q3 := hS.2.2.2.1; go_simp; exact zO hK
              refine zS (fun w' hS hV K hK => ?_) ?_
              · have e14 := zQ hV 14; have e15 := zQ hV 15; have q0 := hS.1; have q1 := hS.2.1; have q2 := hS.2.2.1; have q3 := hS.2.2.2.1; go_simp; exact zO hK
              refine zS (fun w' hS hV K hK => ?_) ?_
              · have e16 := zQ hV 16; have q0 := hS.1; have q1 := hS.2.1; have q2 := hS.2.2.1; have q3 := hS.2.2.2.1; go_simp; exact zO hK
              refine zS (fun w' hS hV K hK => ?_) ?_
              · have e17 := zQ hV 17; have q0 := hS.1; have q1 := hS.2.1; have q2 := hS.2.2.1; have q3 := hS.2.2.2.1; go_simp; exact zO hK
              refine zS (fun w' hS hV K hK => ?_) ?_
              · have q0 := hS.1; have q1 := hS.2.1; have q2 := hS.2.2.1; have q3 := hS.2.2.2.1; go_simp; exact zO hK
              refine zS (fun w' hS hV K hK => ?_) ?_
              · have q0 := hS.1; have q1 := hS.2.1; have q2 := hS.2.2.1; have q3 := hS.2.2.2.1; go_simp; exact zO hK
              refine zS (fun w' hS hV K hK => ?_) ?_
              · have q0 := hS.1; have q1 := hS.2.1; have q2 := hS.2.2.1; have q3 := hS.2.2.2.1; go_simp; exact zO hK
              refine zS (fun w' hS hV K hK => ?_) ?_
              · have e20 := zQ hV 20; have e21 := zQ hV 21; have q0 := hS.1; have q1 := hS.2.1; have q2 := hS.2.2.1; have q3 := hS.2.2.2.1; go_simp; exact zO hK
              refine zS (fun w' hS hV K hK => ?_) ?_
              · have e22 := zQ hV 22; have q0 := hS.1; have q1 := hS.2.1; have q2 := hS.2.2.1; have q3 := hS.2.2.2.1; go_simp; exact zO hK
              refine zS (fun w' hS hV K hK => ?_) ?_
              · have q0 := hS.1; have q1 := hS.2.1; have q2 := hS.2.2.1; have q3 := hS.2.2.2.1; go_simp; exact zO hK
              refine zS (fun w' hS hV K hK => ?_) ?_
              · have e23 := zQ hV 23; have e24 := zQ hV 24; have q0 := hS.1; have q1 := hS.2.1; have q2 := hS.2.2.1; have q3 := hS.2.2.2.1; go_simp; exact zO hK
              refine zS (fun w' hS hV K hK => ?_) ?_
              · have e25 := zQ hV 25; have q0 := hS.1; have q1 := hS.2.1; have q2 := hS.2.2.1; have q3 := hS.2.2.2.1; go_simp; exact zO hK
              refine zS (fun w' hS hV K hK => ?_) ?_
              · have e19 := zQ hV 19; have e26 := zQ hV 26; have q0 := hS.1; have q1 := hS.2.1; have q2 := hS.2.2.1; have q3 := hS.2.2.2.1; go_simp; refine (inv_any p xe _ hp hp2 hx1.1 hx1.2).mono ?_; rintro e v1 ⟨rfl, rfl⟩; exact zO hK
              refine zS (fun w' hS hV K hK => ?_) ?_
              · have e18 := zQ hV 18; have e27 := zQ hV 27; have q0 := hS.1; have q1 := hS.2.1; have q2 := hS.2.2.1; have q3 := hS.2.2.2.1; go_simp; exact zO hK
              refine zS (fun w' hS hV K hK => ?_) ?_
              · have e2 := zQ hV 2; have e6 := zQ hV 6; have e10 := zQ hV 10; have e28 := zQ hV 28; have q0 := hS.1; have q1 := hS.2.1; have q2 := hS.2.2.1; have q3 := hS.2.2.2.1; go_simp; refine (plus_any p _ n _ _ n _ (-y * invF p xe) _ _ _ hp hp2 hn (Nat.le_refl _) (HRR.out.rd.below hS.2.2.2.2) HR1.out.2 (HRD.out.rd.below hS.2.2.2.2) HD1.out.2 HK.out.1 HK.out.2).mono ?_; rintro e v1 ⟨A2, c2, rfl, hM⟩; exact hK.out _ _ _ rfl rfl ⟨_, _, rfl, hM.after hS.2.2.2.2⟩ hM.b
              refine zS (fun w' hS hV K hK => ?_) ?_
              · have e0 := zQ hV 0; have e1 := zQ hV 1; have q0 := hS.1; have q1 := hS.2.1; have q2 := hS.2.2.1; have q3 := hS.2.2.2.1; go_simp; exact zO hK
              refine fun w' hS hV => ?_
              have e0 := zT hV 0
              have e1 := zT hV 1
              have e2 := zT hV 2
              have e3 := zT hV 3
              have e4 := zT hV 4
              have e5 := zT hV 5
              have e6 := zT hV 6
              have e7 := zT hV 7
              have e8 := zT hV 8
              have e9 := zT hV 9
              have e10 := zT hV 10
              have e11 := zT hV 11
              have e12 := zT hV 12
              have e13 := zT hV 13
              have e14 := zT hV 14
              have e15 := zT hV 15
              have e16 := zT hV 16
              have e17 := zT hV 17
              have e18 := zT hV 18
              have e19 := zT hV 19
              have e20 := zT hV 20
              have e21 := zT hV 21
              have e22 := zT hV 22
              have e23 := zT hV 23
              have e24 := zT hV 24
              have e25 := zT hV 25
              have e26 := zT hV 26
              have e27 := zT hV 27
              have e28 := zT hV 28
              obtain ⟨A29, c29, e29, h29⟩ := hV 29 (by decide)
              have e30 := zT hV 30
              simp only [e0, e1, e2, e3, e4, e5, e6, e7, e8, e9, e10, e11, e12, e13, e14, e15, e16, e17, e18, e19, e20, e21, e22, e23, e24, e25, e26, e27, e28, e29, e30]
              clear e0 e1 e2 e3 e4 e5 e6 e7 e8 e9 e10 e11 e12 e13 e14 e15 e16 e17 e18 e19 e20 e21 e22 e23 e24 e25 e26 e27 e28 e29 e30
              have hbn := hS.2.2.2.2
              have q0 := hS.1
              have ff := (HM4.out.below hbn).frozen_ r
              refine any_one (j := 31) (by kernel_rfl) (Eq.trans (by simp only [zA, zB, zC]; exact rfl) rfl) (fun K hK => ?_)
              go_simp
              refine hK.out _ _ (wpAny_done (by kernel_rfl) ?_ _)
              have hM5 := HM4.out.setRow h29 r
              have hM6 : MkII w (w'.setCell ⟨g, r, none⟩ (.slice A29 n c29)) (some ⟨g, 0, none⟩) n c1 (dClr p N j (r + 1)) := by
               rw [dClr_succ (by rw [HTS.out.2]; exact hlr) (by omega), HDR.out]
               exact hM5
              clear q0 ff hM5 h29 hbn hS hV
              go_wp2
              go_roundw
              case rel => exact ⟨r + 1, by omega, by omega, by go_num, hM6⟩
              case measure => simp [intOf]; omega
            · obtain rfl : r = n := by omega
              have HM4 := Lib.hid hM4
              clear hM4
              go_wp2
              go_roundw
              case rel => exact ⟨j + 1, o2 * xe % p, dClr p N j r, rfl, by go_num, by omega, HOX.out, HNXT, Lib.hid ⟨dClr_tab (by omega) HTS.out.1 _ _, by rw [dClr_len, HTS.out.2]⟩, HM4.out⟩
              case measure => simp [intOf]; omega
         · skip
           have t2 : ((j : Int) != (i : Int)) = true := by simp; omega
           have t3 : decide ((i : Int) < (j : Int)) = true := by simp; omega
           obtain ⟨g0, e0, hxd, Ad, cd, hcd, hrd⟩ := HM.out.at_ hli
           injection e0 with e0; injection e0 with e0 _ _; subst e0
           have hld2 : L[i].length = n := (HT1.out.1 L[i] (List.getElem_mem hxd)).1
           rw [hld2] at hcd hrd
           have fd := HM.out.frozen_ i
           have fj := HM.out.frozen_ j
           have HSW := Lib.hid (HM.out.swap hli hlj hcd hcj)
           obtain ⟨uj, hcs⟩ := HM.out.cellSet i (A1 := some ⟨gj, oj, none⟩) (m := n) (c1 := cj) hlj
           have hwn := i64_small (x := -out) (by omega) (by omega)
           have hnum0 := fun w' => num_any p (-out) w' (by omega) hp2 (by omega) (by omega)
           clear hrj hrd hld2 hxd
           go_wp2
           go_region
           obtain ⟨w2, hw2⟩ : ∃ W, W = ((wr.setCell ⟨g, i, none⟩ (.slice (some ⟨gj, oj, none⟩) n cj)).setCell ⟨g, j, none⟩ (.slice Ad n cd)).drew := ⟨_, rfl⟩
           have hM2 : MkII w w2 (some ⟨g, 0, none⟩) n c1 (swapL L i j) := by rw [hw2]; exact HSW.out.below (zG.drew)
           rw [← hw2]
           clear hw2 HSW hcs fd fj hcd hcj hce
           go_wp2_with fail
           refine (hnum0 _).mono ?_
           rintro e w3 ⟨rfl, rfl⟩
           clear hnum0
           have HM2 := Lib.hid hM2
           clear hM2
           obtain ⟨N, hN⟩ : ∃ N, N = swapL L i j := ⟨_, rfl⟩
           rw [← hN] at HM2 HTS HEI HNX HROW
           obtain ⟨o2, ho2⟩ : ∃ o2, o2 = (-out) % p := ⟨_, rfl⟩
           have HO2 : Hid (0 ≤ o2 ∧ o2 < p) := Lib.hid (by rw [ho2]; exact ⟨Int.emod_nonneg _ (by omega), Int.emod_lt_of_pos _ (by omega)⟩)
           have HNXT : Hid (detL p M = detF p (n - (i + 1)) (dClr p N i n) (i + 1) (o2 * xe % p)) := Lib.hid (by rw [HNX.out, if_neg hij, ho2])
           rw [← ho2]
           clear hN ho2 HNX
           obtain ⟨g0, e0, hxs, As, cs, hcs2, hrs⟩ := HM2.out.at_ hli
           injection e0 with e0; injection e0 with e0 _ _; subst e0
           have hrow : N[i] = R := by have := HROW.out; rw [List.getElem?_eq_getElem hxs] at this; exact Option.some.inj this
           rw [hrow] at hcs2 hrs
           have hRl := HRJ.out.1
           rw [hRl] at hcs2 hrs
           obtain ⟨gs, os, rfl, hxe2, hce2⟩ := hrs.rd.int hli
           rw [HXE.out hxe2] at hce2
           clear hrs hrow hxe2 hxs hRl
           have hob2 := HO2.out
           have hmb := mul_b (a := o2) (b := xe) (by omega) (by omega)
           have hw1 := i64_small (x := o2 * xe) (by omega) (by omega)
           have hnum := fun w' => num_any p (o2 * xe) w' (by omega) hp2 (by omega) (by omega)
           go_wp2_with fail
           refine (hnum _).mono ?_
           rintro e w5 ⟨rfl, rfl⟩
           clear hnum hce2 hcs2
           have HM3 := Lib.hid (show MkII w w2 (some ⟨g, 0, none⟩) n c1 (dClr p N i (i + 1)) by rw [dClr_start]; exact HM2.out)
           have HOX : Hid (0 ≤ o2 * xe % p ∧ o2 * xe % p < p) := Lib.hid ⟨Int.emod_nonneg _ (by omega), Int.emod_lt_of_pos _ (by omega)⟩
           clear HM2 HM
           go_wp2
           go_loopw [9] (fun q w4 => ∃ r : Nat, i + 1 ≤ r ∧ r ≤ n ∧ q = .int .i64 r ∧ MkII w w4 (some ⟨g, 0, none⟩) n c1 (dClr p N i r)) (fun q _ => n - (intOf q).toNat)
           case atStart => exact ⟨i + 1, by omega, by omega, by go_num, HM3.out⟩
           case round =>
            obtain ⟨r, hr1, hr2, rfl, hM4⟩ := hrel
            clear HM3
            by_cases hlr : r < n
            · have hT4 : Tab p n (dClr p N i r) := dClr_tab (by omega) HTS.out.1 i r
              have hr4 : (dClr p N i r).getD r [] = N.getD r [] := by rw [dClr_getD (by rw [HTS.out.2]; exact hlr), if_neg (by omega)]
              have hd4 : (dClr p N i r).getD i [] = N.getD i [] := by rw [dClr_getD (by rw [HTS.out.2]; exact hli), if_neg (by omega)]
              obtain ⟨g0, e0, hxr, Ar, cr, hcr, hrr⟩ := hM4.at_ hlr
              injection e0 with e0; injection e0 with e0 _ _; subst e0
              obtain ⟨g0, e0, hxd, Ad2, cd2, hcd2, hrd2⟩ := hM4.at_ hli
              injection e0 with e0; injection e0 with e0 _ _; subst e0
              have HR1 := Lib.hid (hT4 _ (List.getElem_mem hxr))
              have HD1 := Lib.hid (hT4 _ (List.getElem_mem hxd))
              have hl1 := HR1.out.1
              have hl2 := HD1.out.1
              rw [getD_of_lt [] hxr] at hr4
              rw [getD_of_lt [] hxd] at hd4
              rw [hl1] at hcr hrr
              rw [hl2] at hcd2 hrd2
              rw [hr4] at hrr HR1
              rw [hd4] at hrd2 HD1
              obtain ⟨gr, or', rfl, hxy, hcy⟩ := hrr.rd.int hli
              obtain ⟨gd, od, rfl, hxz, hcz⟩ := hrd2.rd.int hli
              have hey : ent N r i = (N.getD r [])[i] := by unfold ent; rw [getD_of_lt 0 hxy]
              have hez : (N.getD i [])[i] = xe := by rw [← HEI.out]; unfold ent; rw [getD_of_lt 0 hxz]
              obtain ⟨y, hy⟩ : ∃ y, y = (N.getD r [])[i] := ⟨_, rfl⟩
              have hyb : 0 ≤ y ∧ y < p := hy ▸ HR1.out.2 _ (List.getElem_mem hxy)
              rw [← hy] at hcy hey
              rw [hez] at hcz
              have HDR : Hid (dRow p N i r = plusL p (N.getD r []) (N.getD i []) (-y * invF p xe)) := Lib.hid (by unfold dRow; rw [hey, HEI.out])
              have HM4 := Lib.hid hM4
              have HRR := Lib.hid hrr
              have HRD := Lib.hid hrd2
              clear hy hT4 hr4 hd4 hl1 hl2 hxr hxd hxy hxz hey hez hM4 hrr hrd2
              have hmy := mul_b (a := y) (b := invF p xe) (by omega) (by omega)
              have hneg : -y * invF p xe = -(y * invF p xe) := Int.neg_mul _ _
              have hwy := i64_small (x := -y) (by omega) (by omega)
              have hmy2 : y * invF p xe ≤ 144 := by
               have h9 := Int.mul_le_mul (show y ≤ 12 by omega) (show invF p xe ≤ 12 by omega) hiv.1 (by omega : (0 : Int) ≤ 12)
               omega
              have hwm := i64_small (x := -y * invF p xe) (by omega) (by omega)
              have hk1 : -1000 ≤ -y * invF p xe := by omega
              have hk2 : -y * invF p xe ≤ 1000 := by omega
              have HK := Lib.hid (And.intro hk1 hk2)
              clear hneg hmy hmy2 hk1 hk2
              go_wp2
              refine wp_obs 31 [[],[],[],[],[],[3,4],[3,4,5],[],[],[7,8],[7,8,9],[],[],[11,12],[11,12,13],[],[11,12,13,14,15],[11,12,13,14,15,16],[11,12,13,14,15,16,17],[],[],[],[20,21],[20,21,22],[],[20,21,22,23,24],[20,21,22,23,24,25],[19,20,21,22,23,24,25,26],[11,12,13,14,15,16,17,18,19,20,21,22,23,24,25,26,27],[2,3,4,5,6,7,8,9,10,11,12,13,14,15,16,17,18,19,20,21,22,23,24,25,26,27,28],[0,1],[0,1,2,3,4,5,6,7,8,9,10,11,12,13,14,15,16,17,18,19,20,21,22,23,24,25,26,27,28,29,30]] [VIs (.slice (some ⟨g, 0, none⟩) n c1), VIs (.int .i64 (r)), VIs (.int .i64 (p)), VIs (.slice (some ⟨g, 0, none⟩) n c1), VIs (.int .i64 (r)), VIs (.pointer (some ⟨g, r, none⟩)), VIs (.slice (some ⟨gr, or', none⟩) n cr), VIs (.slice (some ⟨g, 0, none⟩) n c1), VIs (.int .i64 (i)), VIs (.pointer (some ⟨g, i, none⟩)), VIs (.slice (some ⟨gd, od, none⟩) n cd2), VIs (.slice (some ⟨g, 0, none⟩) n c1), VIs (.int .i64 (r)), VIs (.pointer (some ⟨g, r, none⟩)), VIs (.slice (some ⟨gr, or', none⟩) n cr), VIs (.int .i64 (i)), VIs (.pointer (some ⟨gr, or' + i, none⟩)), VIs (.int .i64 (y)), VIs (.int .i64 (-y)), VIs (.int .i64 (p)), VIs (.slice (some ⟨g, 0, none⟩) n c1), VIs (.int .i64 (i)), VIs (.pointer (some ⟨g, i, none⟩)), VIs (.slice (some ⟨gd, od, none⟩) n cd2), VIs (.int .i64 (i)), VIs (.pointer (some ⟨gd, od + i, none⟩)), VIs (.int .i64 (xe)), VIs (.int .i64 (invF p xe)), VIs (.int .i64 (-y * invF p xe)), VSl wr n (plusL p (N.getD r []) (N.getD i []) (-y * invF p xe)), VIs (.pointer (some ⟨g, r, none⟩))] (fun w' => w'.cell? ⟨g, r, none⟩ = some (.slice (some ⟨gr, or', none⟩) n cr) ∧ w'.cell? ⟨g, i, none⟩ = some (.slice (some ⟨gd, od, none⟩) n cd2) ∧ w'.cell? ⟨gr, or' + i, none⟩ = some (.int .i64 y) ∧ w'.cell? ⟨gd, od + i, none⟩ = some (.int .i64 xe) ∧ Below wr.heap.size wr w') (by kernel_rfl) (by kernel_rfl) (fun _ _ h hb => ⟨(hb.cell (World.block_lt_of_cell? _ _ h.1)).trans h.1, (hb.cell (World.block_lt_of_cell? _ _ h.2.1)).trans h.2.1, (hb.cell (World.block_lt_of_cell? _ _ h.2.2.1)).trans h.2.2.1, (hb.cell (World.block_lt_of_cell? _ _ h.2.2.2.1)).trans h.2.2.2.1, h.2.2.2.2.trans (hb.mono h.2.2.2.2.size)⟩) (⟨hcr, hcd2, hcy, hcz, zG.drew⟩) (fun x => ?_)
              refine zS (fun w' hS hV K hK => ?_) ?_
              · have q0 := hS.1; have q1 := hS.2.1; have q2 := hS.2.2.1; have q3 := hS.2.2.2.1; go_simp; exact zO hK
              refine zS (fun w' hS hV K hK => ?_) ?_
              · have q0 := hS.1; have q1 := hS.2.1; have q2 := hS.2.2.1; have q3 := hS.2.2.2.1; go_simp; exact zO hK
              refine zS (fun w' hS hV K hK => ?_) ?_
              · have q0 := hS.1; have q1 := hS.2.1; have q2 := hS.2.2.1; have q3 := hS.2.2.2.1; go_simp; exact zO hK
              refine zS (fun w' hS hV K hK => ?_) ?_
              · have q0 := hS.1; have q1 := hS.2.1; have q2 := hS.2.2.1; have q3 := hS.2.2.2.1; go_simp; exact zO hK
              refine zS (fun w' hS hV K hK => ?_) ?_
              · have q0 := hS.1; have q1 := hS.2.1; have q2 := hS.2.2.1; have q3 := hS.2.2.2.1; go_simp; exact zO hK
              refine zS (fun w' hS hV K hK => ?_) ?_
              · have e3 := zQ hV 3; have e4 := zQ hV 4; have q0 := hS.1; have q1 := hS.2.1; have q2 := hS.2.2.1; have q3 := hS.2.2.2.1; go_simp; exact zO hK
              refine zS (fun w' hS hV K hK => ?_) ?_
              · have e5 := zQ hV 5; have q0 := hS.1; have q1 := hS.2.1; have q2 := hS.2.2.1; have q3 := hS.2.2.2.1; go_simp; exact zO hK
              refine zS (fun w' hS hV K hK => ?_) ?_
              · have q0 := hS.1; have q1 := hS.2.1; have q2 := hS.2.2.1; have q3 := hS.2.2.2.1; go_simp; exact zO hK
              refine zS (fun w' hS hV K hK => ?_) ?_
              · have q0 := hS.1; have q1 := hS.2.1; have q2 := hS.2.2.1; have q3 := hS.2.2.2.1; go_simp; exact zO hK
              refine zS (fun w' hS hV K hK => ?_) ?_
              · have e7 := zQ hV 7; have e8 := zQ hV 8; have q0 := hS.1; have q1 := hS.2.1; have q2 := hS.2.2.1; have q3 := hS.2.2.2.1; go_simp; exact zO hK
              refine zS (fun w' hS hV K hK => ?_) ?_
              · have e9 := zQ hV 9; have q0 := hS.1; have q1 := hS.2.1; have q2 := hS.2.2.1; have q3 := hS.2.2.2.1; go_simp; exact zO hK
              refine zS (fun w' hS hV K hK => ?_) ?_
              · have q0 := hS.1; have q1 := hS.2.1; have q2 := hS.2.2.1; have q3 := hS.2.2.2.1; go_simp; exact zO hK
              refine zS (fun w' hS hV K hK => ?_) ?_
              · have q0 := hS.1; have q1 := hS.2.1; have q2 := hS.2.2.1; have q3 := hS.2.2.2.1; go_simp; exact zO hK
              refine zS (fun w' hS hV K hK => ?_) ?_
              · have e11 := zQ hV 11; have e12 := zQ hV 12; have q0 := hS.1; have q1 := hS.2.1; have q2 := hS.2.2.1; have q3 := hS.2.2.2.1; go_simp; exact zO hK
              refine zS (fun w' hS hV K hK => ?_) ?_
              · have e13 := zQ hV 13; have q0 := hS.1; have q1 := hS.2.1; have q2 := hS.2.2.1; have q3 := hS.2.2.2.1; go_simp; exact zO hK
              refine zS (fun w' hS hV K hK => ?_) ?_
              · have q0 := hS.1; have q1 := hS.2.1; have q2 := hS.2.2.1; have q3 := hS.2.2.2.1; go_simp; exact zO hK
              refine zS (fun w' hS hV K hK => ?_) ?_
              · have e14 := zQ hV 14; have e15 := zQ hV 15; have q0 := hS.1; have q1 := hS.2.1; have q2 := hS.2.2.1; have q3 := hS.2.2.2.1; go_simp; exact zO hK
              refine zS (fun w' hS hV K hK => ?_) ?_
              · have e16 := zQ hV 16; have q0 := hS.1; have q1 := hS.2.1; have q2 := hS.2.2.1; have q3 := hS.2.2.2.1; go_simp; exact zO hK
              refine zS (fun w' hS hV K hK => ?_) ?_
              · have e17 := zQ hV 17; have q0 := hS.1; have q1 := hS.2.1; have q2 := hS.2.2.1; have q3 := hS.2.2.2.1; go_simp; exact zO hK
              refine zS (fun w' hS hV K hK => ?_) ?_
              · have q0 := hS.1; have q1 := hS.2.1; have q2 := hS.2.2.1; have q3 := hS.2.2.2.1; go_simp; exact zO hK
              refine zS (fun w' hS hV K hK => ?_) ?_
              · have q0 := hS.1; have q1 := hS.2.1; have q2 := hS.2.2.1; have q3 := hS.2.2.2.1; go_simp; exact zO hK
              refine zS (fun w' hS hV K hK => ?_) ?_
              · have q0 := hS.1; have q1 := hS.2.1; have q2 := hS.2.2.1; have q3 := hS.2.2.2.1; go_simp; exact zO hK
              refine zS (fun w' hS hV K hK => ?_) ?_
              · have e20 := zQ hV 20; have e21 := zQ hV 21; have q0 := hS.1; have q1 := hS.2.1; have q2 := hS.2.2.1; have q3 := hS.2.2.2.1; go_simp; exact zO hK
              refine zS (fun w' hS hV K hK => ?_) ?_
              · have e22 := zQ hV 22; have q0 := hS.1; have q1 := hS.2.1; have q2 := hS.2.2.1; have q3 := hS.2.2.2.1; go_simp; exact zO hK
              refine zS (fun w' hS hV K hK => ?_) ?_
              · have q0 := hS.1; have q1 := hS.2.1; have q2 := hS.2.2.1; have q3 := hS.2.2.2.1; go_simp; exact zO hK
              refine zS (fun w' hS hV K hK => ?_) ?_
              · have e23 := zQ hV 23; have e24 := zQ hV 24; have q0 := hS.1; have q1 := hS.2.1; have q2 := hS.2.2.1; have q3 := hS.2.2.2.1; go_simp; exact zO hK
              refine zS (fun w' hS hV K hK => ?_) ?_
              · have e25 := zQ hV 25; have q0 := hS.1; have q1 := hS.2.1; have q2 := hS.2.2.1; have q3 := hS.2.2.2.1; go_simp; exact zO hK
              refine zS (fun w' hS hV K hK => ?_) ?_
              · have e19 := zQ hV 19; have e26 := zQ hV 26; have q0 := hS.1; have q1 := hS.2.1; have q2 := hS.2.2.1; have q3 := hS.2.2.2.1; go_simp; refine (inv_any p xe _ hp hp2 hx1.1 hx1.2).mono ?_; rintro e v1 ⟨rfl, rfl⟩; exact zO hK
              refine zS (fun w' hS hV K hK => ?_) ?_
              · have e18 := zQ hV 18; have e27 := zQ hV 27; have q0 := hS.1; have q1 := hS.2.1; have q2 := hS.2.2.1; have q3 := hS.2.2.2.1; go_simp; exact zO hK
              refine zS (fun w' hS hV K hK => ?_) ?_
              · have e2 := zQ hV 2; have e6 := zQ hV 6; have e10 := zQ hV 10; have e28 := zQ hV 28; have q0 := hS.1; have q1 := hS.2.1; have q2 := hS.2.2.1; have q3 := hS.2.2.2.1; go_simp; refine (plus_any p _ n _ _ n _ (-y * invF p xe) _ _ _ hp hp2 hn (Nat.le_refl _) (HRR.out.rd.below hS.2.2.2.2) HR1.out.2 (HRD.out.rd.below hS.2.2.2.2) HD1.out.2 HK.out.1 HK.out.2).mono ?_; rintro e v1 ⟨A2, c2, rfl, hM⟩; exact hK.out _ _ _ rfl rfl ⟨_, _, rfl, hM.after hS.2.2.2.2⟩ hM.b
              refine zS (fun w' hS hV K hK => ?_) ?_
              · have e0 := zQ hV 0; have e1 := zQ hV 1; have q0 := hS.1; have q1 := hS.2.1; have q2 := hS.2.2.1; have q3 := hS.2.2.2.1; go_simp; exact zO hK
              refine fun w' hS hV => ?_
              have e0 := zT hV 0
              have e1 := zT hV 1
              have e2 := zT hV 2
              have e3 := zT hV 3
              have e4 := zT hV 4
              have e5 := zT hV 5
              have e6 := zT hV 6
              have e7 := zT hV 7
              have e8 := zT hV 8
              have e9 := zT hV 9
              have e10 := zT hV 10
              have e11 := zT hV 11
              have e12 := zT hV 12
              have e13 := zT hV 13
              have e14 := zT hV 14
              have e15 := zT hV 15
              have e16 := zT hV 16
              have e17 := zT hV 17
              have e18 := zT hV 18
              have e19 := zT hV 19
              have e20 := zT hV 20
              have e21 := zT hV 21
              have e22 := zT hV 22
              have e23 := zT hV 23
              have e24 := zT hV 24
              have e25 := zT hV 25
              have e26 := zT hV 26
              have e27 := zT hV 27
              have e28 := zT hV 28
              obtain ⟨A29, c29, e29, h29⟩ := hV 29 (by decide)
              have e30 := zT hV 30
              simp only [e0, e1, e2, e3, e4, e5, e6, e7, e8, e9, e10, e11, e12, e13, e14, e15, e16, e17, e18, e19, e20, e21, e22, e23, e24, e25, e26, e27, e28, e29, e30]
              clear e0 e1 e2 e3 e4 e5 e6 e7 e8 e9 e10 e11 e12 e13 e14 e15 e16 e17 e18 e19 e20 e21 e22 e23 e24 e25 e26 e27 e28 e29 e30
              have hbn := hS.2.2.2.2
              have q0 := hS.1
              have ff := (HM4.out.below hbn).frozen_ r
              refine any_one (j := 31) (by kernel_rfl) (Eq.trans (by simp only [zA, zB, zC]; exact rfl) rfl) (fun K hK => ?_)
              go_simp
              refine hK.out _ _ (wpAny_done (by kernel_rfl) ?_ _)
              have hM5 := HM4.out.setRow h29 r
              have hM6 : MkII w (w'.setCell ⟨g, r, none⟩ (.slice A29 n c29)) (some ⟨g, 0, none⟩) n c1 (dClr p N i (r + 1)) := by
               rw [dClr_succ (by rw [HTS.out.2]; exact hlr) (by omega), HDR.out]
               exact hM5
              clear q0 ff hM5 h29 hbn hS hV
              go_wp2
              go_roundw
              case rel => exact ⟨r + 1, by omega, by omega, by go_num, hM6⟩
              case measure => simp [intOf]; omega
            · obtain rfl : r = n := by omega
              have HM4 := Lib.hid hM4
              clear hM4
              go_wp2
              go_roundw
              case rel => exact ⟨i + 1, o2 * xe % p, dClr p N i r, rfl, by go_num, by omega, HOX.out, HNXT, Lib.hid ⟨dClr_tab (by omega) HTS.out.1 _ _, by rw [dClr_len, HTS.out.2]⟩, HM4.out⟩
              case measure => simp [intOf]; omega
       · have hx0' : xe = 0 := by simpa using hz
         go_wp2
         go_round
         case rel => exact ⟨j + 1, by omega, by omega, by go_num, Lib.hid (by rw [← hj3.out, HPV.out, if_pos (by rw [HE.out]; exact hx0')])⟩
         case measure => simp [intOf]; omega
     · obtain rfl : j = n := by omega
       have HVP : Hid (pivOf L i i = j) := Lib.hid (by rw [← hj3.out, Nat.sub_self]; rfl)
       have HZ : Hid (detL p M = 0) := Lib.hid (by rw [HD.out, HSUC.out, detF_none (by rw [HVP.out, HT1.out.2])])
       go_wp2
       go_ret
       rw [HZ.out]
       exact ⟨rfl, HBB.out⟩
  · obtain rfl : i = n := by omega
    have HZ : Hid (detL p M = out) := Lib.hid (by rw [HD.out, Nat.sub_self]; rfl)
    go_wp2
    go_ret
    rw [HZ.out]
    exact ⟨rfl, HBB.out⟩
set_option maxHeartbeats 6400000 in
set_option maxRecDepth 8000 in
theorem isIsometry_sq (P : Int) (A : Option Addr) (n c : Nat) (sq : List Int) (D : Option Addr) (d : Nat) (M : List (List Int)) (w : World) (HP : isP P = true) (hn0 : 0 < n) (hn : n ≤ 6) (ha : Rd w A n (ints sq)) (hs : NumsL P sq) (hd : RdII w D n M) (hM : Tab P n M) :
    Calls Tryz.prog 120 #[.agg #[.int .i64 P, .slice A n c], .agg #[.int .i64 P, .slice A n c], .slice D n d] w fun e w' => e = .returned (.bool (isoB P sq M)) ∧ Below w.heap.size w w' := by
 have t7 : (P != P) = false := by simp
 have t6 : ((n : Int) != (n : Int)) = false := by simp
 have hB0 : Below w.heap.size w ((w.alloc (.cells #[.int .i64 P, .slice A n c] 26)).alloc (.cells #[.int .i64 P, .slice A n c] 26)) := (zG.alloc (Nat.le_refl _) _).alloc (by simp) _
 have k0 : Blk ((w.alloc (.cells #[.int .i64 P, .slice A n c] 26)).alloc (.cells #[.int .i64 P, .slice A n c] 26)) w.heap.size 26 #[.int .i64 P, .slice A n c] := (Blk.new _ _ _).alloc _
 have k1 : Blk ((w.alloc (.cells #[.int .i64 P, .slice A n c] 26)).alloc (.cells #[.int .i64 P, .slice A n c] 26)) (w.heap.size + 1) 26 #[.int .i64 P, .slice A n c] := Blk.newAt3 (by simp)
 obtain ⟨hp3, hp2⟩ := isP_ge HP
 have HTT : Hid (Tab P n (transL M) ∧ (transL M).length = n) := Lib.hid (trans_ok (by omega) hM (hd.len) hn0)
 have HM := Lib.hid hM
 have HSN := Lib.hid hs
 have HSL := Lib.hid ha.lenI
 have HFR : Hid (frB P sq.length M = true) := Lib.hid (frB_iff.2 ⟨hd.len.trans ha.lenI.symm, by rw [ha.lenI]; exact hM⟩)
 obtain ⟨R, hR⟩ : ∃ b, b = isoB P sq M := ⟨_, rfl⟩
 rw [← hR]
 have HR := Lib.hid hR
 obtain ⟨dd, hdd⟩ : ∃ x, x = detL P M := ⟨_, rfl⟩
 have HD := Lib.hid hdd
 have HIM := Lib.hid fun w' (h : Below w.heap.size w w') => isMatrix_ok P D n d M n w' (by omega) hp2 hn0 (by omega) hn0 (by omega) (hd.below h) hM
 have HDE := Lib.hid fun w' (h : Below w.heap.size w w') => determinant_any P D n d M w' HP hn0 (by omega) (hd.below h) hM
 rw [← hdd] at HDE
 have HTP := Lib.hid fun w' (h : Below w.heap.size w w') => transpose_any P D n d M n w' hn0 (by omega) (by omega) (hd.below h) hM
 have HA := Lib.hid ha
 obtain ⟨b, hb0⟩ : ∃ b, b = (dd == 0) := ⟨_, rfl⟩
 have hb1 : (dd == 0) = b := hb0.symm
 have HB : Hid ((b = true → R = false) ∧ (b = false → detL P M ≠ 0)) := Lib.hid ⟨fun h => by rw [HR.out]; exact is_det (by rw [← hdd]; rw [h] at hb0; simpa using hb0.symm), fun h => by rw [← hdd]; rw [h] at hb0; simpa using hb0.symm⟩
 obtain ⟨g, o, rfl, hx0, A0, c0, hc0, -, -⟩ := (hd.below hB0).at_ hn0
 rw [(hM M[0] (List.getElem_mem hx0)).1, Nat.add_zero] at hc0
 clear hM hd hs ha hR hdd hb0 HP hx0
 obtain ⟨q0, q1⟩ := k0.two
 obtain ⟨q2, q3⟩ := k1.two
 go_enter Tryz.func120, Tryz.ntmps120
 go_wp2
 refine wp_obs 42 [[],[0],[],[2],[0,1,2,3],[0,1,2,3,4],[0,1,2,3,4,5],[0,1,2,3,4,5,6],[0,1,2,3,4,5],[0,1,2,3,4,5,8],[0,1,2,3,4,5,6,7,8,9],[0,1,2,3,4,5,6,7,8,9,10],[0,1,2,3,4,5,6,7,8,9,10,11],[0,1,2,3,4,5,6,7,8,9,10,11,12],[0,1,2,3,4,5,6,7,8,9,10,11,12,13],[0,1,2,3,4,5,6,7,8,9,10,11,12],[0,1,2,3,4,5,6,7,8,9,10,11,12,13,14,15],[0,1,2,3,4,5,6,7,8,9,10,11,12,13,14,15,16],[0,1,2,3,4,5,6,7,8,9,10,11,12,13,14,15,16,17],[0,1,2,3,4,5,6,7,8,9,10,11,12,13,14,15,16,17,18],[0,1,2,3,4,5,6,7,8,9,10,11,12,13,14,15,16,17,18,19],[0,1,2,3,4,5,6,7,8,9,10,11,12,13,14,15,16,17,18,19,20],[0,1,2,3,4,5,6,7,8,9,10,11,12,13,14,15,16,17,18,19],[0,1,2,3,4,5,6,7,8,9,10,11,12,13,14,15,16,17,18,19,22],[0,1,2,3,4,5,6,7,8,9,10,11,12,13,14,15,16,17,18,19,20,21,22,23],[0,1,2,3,4,5,6,7,8,9,10,11,12,13,14,15,16,17,18,19,20,21,22,23,24],[0,1,2,3,4,5,6,7,8,9,10,11,12,13,14,15,16,17,18,19,20,21,22,23,24,25],[0,1,2,3,4,5,6,7,8,9,10,11,12,13,14,15,16,17,18,19,20,21,22,23,24,25,26],[0,1,2,3,4,5,6,7,8,9,10,11,12,13,14,15,16,17,18,19,20,21,22,23,24,25,26,27],[0,1,2,3,4,5,6,7,8,9,10,11,12,13,14,15,16,17,18,19,20,21,22,23,24,25,26,27,28],[0,1,2,3,4,5,6,7,8,9,10,11,12,13,14,15,16,17,18,19,20,21,22,23,24,25,26,27,28,29],[0,1,2,3,4,5,6,7,8,9,10,11,12,13,14,15,16,17,18,19,20,21,22,23,24,25,26],[0,1,2,3,4,5,6,7,8,9,10,11,12,13,14,15,16,17,18,19,20,21,22,23,24,25,26,31],[0,1,2,3,4,5,6,7,8,9,10,11,12,13,14,15,16,17,18,19,20,21,22,23,24,25,26,27,28,29,30,31,32],[0,1,2,3,4,5,6,7,8,9,10,11,12,13,14,15,16,17,18,19,20,21,22,23,24,25,26,27,28,29,30,31,32,33],[0,1,2,3,4,5,6,7,8,9,10,11,12,13,14,15,16,17,18,19,20,21,22,23,24,25,26,27,28,29,30,31,32,33,34],[0,1,2,3,4,5,6,7,8,9,10,11,12,13,14,15,16,17,18,19,20,21,22,23,24,25,26,27,28,29,30,31,32,33,34,35],[0,1,2,3,4,5,6,7,8,9,10,11,12,13,14,15,16,17,18,19,20,21,22,23,24,25,26,27,28,29,30,31,32,33,34,35,36],[0,1,2,3,4,5,6,7,8,9,10,11,12,13,14,15,16,17,18,19,20,21,22,23,24,25,26,27,28,29,30,31,32,33,34,35],[0,1,2,3,4,5,6,7,8,9,10,11,12,13,14,15,16,17,18,19,20,21,22,23,24,25,26,27,28,29,30,31,32,33,34,35,36,37,38],[0,1,2,3,4,5,6,7,8,9,10,11,12,13,14,15,16,17,18,19,20,21,22,23,24,25,26,27,28,29,30,31,32,33,34,35,36,37,38,39],[0,1,2,3,4,5,6,7,8,9,10,11,12,13,14,15,16,17,18,19,20,21,22,23,24,25,26,27,28,29,30,31,32,33,34,35,36,37,38,39,40]] [VIs (.pointer (some ⟨w.heap.size, 0, none⟩)), VIs (.int .i64 (P)), VIs (.pointer (some ⟨w.heap.size + 1, 0, none⟩)), VIs (.int .i64 (P)), VIs (.bool false), VIs (.bool false), VIs (.agg #[.int .i64 P, .slice A n c]), VIs (.int .i64 (n)), VIs (.agg #[.int .i64 P, .slice A n c]), VIs (.int .i64 (n)), VIs (.bool false), VIs (.bool false), VIs (.bool false), VIs (.agg #[.int .i64 P, .slice A n c]), VIs (.int .i64 (P)), VIs (.slice (some ⟨g, o, none⟩) n d), VIs (.bool true), VIs (.bool false), VIs (.bool false), VIs (.bool false), VIs (.slice (some ⟨g, o, none⟩) n d), VIs (.int .i64 (n)), VIs (.agg #[.int .i64 P, .slice A n c]), VIs (.int .i64 (n)), VIs (.bool false), VIs (.bool false), VIs (.bool false), VIs (.slice (some ⟨g, o, none⟩) n d), VIs (.pointer (some ⟨g, o, none⟩)), VIs (.slice A0 n c0), VIs (.int .i64 (n)), VIs (.agg #[.int .i64 P, .slice A n c]), VIs (.int .i64 (n)), VIs (.bool false), VIs (.bool false), VIs (.bool false), VIs (.agg #[.int .i64 P, .slice A n c]), VIs (.int .i64 (P)), VIs (.slice (some ⟨g, o, none⟩) n d), VIs (.int .i64 (dd)), VIs (.bool b), VIs (.bool b)] (fun w' => w'.cell? ⟨g, o, none⟩ = some (.slice A0 n c0) ∧ Blk w' w.heap.size 26 #[.int .i64 P, .slice A n c] ∧ Blk w' (w.heap.size + 1) 26 #[.int .i64 P, .slice A n c] ∧ Below w.heap.size w w') (by kernel_rfl) (by kernel_rfl) (fun _ _ h hb => ⟨(hb.cell (World.block_lt_of_cell? _ _ h.1)).trans h.1, h.2.1.below hb h.2.1.lt, h.2.2.1.below hb h.2.2.1.lt, h.2.2.2.trans (hb.mono h.2.2.2.size)⟩) (⟨hc0, k0.drew, k1.drew, hB0.drew⟩) (fun x => ?_)
 refine zS (fun w' hS hV K hK => ?_) ?_
 · have q9 := hS.1; obtain ⟨q0, q1⟩ := hS.2.1.two; obtain ⟨q2, q3⟩ := hS.2.2.1.two; go_simp; exact zO hK
 refine zS (fun w' hS hV K hK => ?_) ?_
 · have e0 := zQ hV 0; have q9 := hS.1; obtain ⟨q0, q1⟩ := hS.2.1.two; obtain ⟨q2, q3⟩ := hS.2.2.1.two; go_simp; exact zO hK
 refine zS (fun w' hS hV K hK => ?_) ?_
 · have q9 := hS.1; obtain ⟨q0, q1⟩ := hS.2.1.two; obtain ⟨q2, q3⟩ := hS.2.2.1.two; go_simp; exact zO hK
 refine zS (fun w' hS hV K hK => ?_) ?_
 · have e2 := zQ hV 2; have q9 := hS.1; obtain ⟨q0, q1⟩ := hS.2.1.two; obtain ⟨q2, q3⟩ := hS.2.2.1.two; go_simp; exact zO hK
 refine zS (fun w' hS hV K hK => ?_) ?_
 · have e1 := zQ hV 1; have e3 := zQ hV 3; have q9 := hS.1; obtain ⟨q0, q1⟩ := hS.2.1.two; obtain ⟨q2, q3⟩ := hS.2.2.1.two; go_simp; exact zO hK
 refine zS (fun w' hS hV K hK => ?_) ?_
 · have e4 := zQ hV 4; have q9 := hS.1; obtain ⟨q0, q1⟩ := hS.2.1.two; obtain ⟨q2, q3⟩ := hS.2.2.1.two; go_simp; exact zO hK
 refine zS (fun w' hS hV K hK => ?_) ?_
 · have e5 := zQ hV 5; have q9 := hS.1; obtain ⟨q0, q1⟩ := hS.2.1.two; obtain ⟨q2, q3⟩ := hS.2.2.1.two; go_simp; exact zO hK
 refine zS (fun w' hS hV K hK => ?_) ?_
 · have e5 := zQ hV 5; have e6 := zQ hV 6; have q9 := hS.1; obtain ⟨q0, q1⟩ := hS.2.1.two; obtain ⟨q2, q3⟩ := hS.2.2.1.two; go_simp; refine (dim_any _ _ _ _ _).mono ?_; rintro e v1 ⟨rfl, hb⟩; exact hK.out _ _ _ rfl rfl rfl hb
 refine zS (fun w' hS hV K hK => ?_) ?_
 · have e5 := zQ hV 5; have q9 := hS.1; obtain ⟨q0, q1⟩ := hS.2.1.two; obtain ⟨q2, q3⟩ := hS.2.2.1.two; go_simp; exact zO hK
 refine zS (fun w' hS hV K hK => ?_) ?_
 · have e5 := zQ hV 5; have e8 := zQ hV 8; have q9 := hS.1; obtain ⟨q0, q1⟩ := hS.2.1.two; obtain ⟨q2, q3⟩ := hS.2.2.1.two; go_simp; refine (dim_any _ _ _ _ _).mono ?_; rintro e v1 ⟨rfl, hb⟩; exact hK.out _ _ _ rfl rfl rfl hb
 refine zS (fun w' hS hV K hK => ?_) ?_
 · have e5 := zQ hV 5; have e7 := zQ hV 7; have e9 := zQ hV 9; have q9 := hS.1; obtain ⟨q0, q1⟩ := hS.2.1.two; obtain ⟨q2, q3⟩ := hS.2.2.1.two; go_simp; exact zO hK
 refine zS (fun w' hS hV K hK => ?_) ?_
 · have e5 := zQ hV 5; have e10 := zQ hV 10; have q9 := hS.1; obtain ⟨q0, q1⟩ := hS.2.1.two; obtain ⟨q2, q3⟩ := hS.2.2.1.two; go_simp; exact zO hK
 refine zS (fun w' hS hV K hK => ?_) ?_
 · have e11 := zQ hV 11; have q9 := hS.1; obtain ⟨q0, q1⟩ := hS.2.1.two; obtain ⟨q2, q3⟩ := hS.2.2.1.two; go_simp; exact zO hK
 refine zS (fun w' hS hV K hK => ?_) ?_
 · have e12 := zQ hV 12; have q9 := hS.1; obtain ⟨q0, q1⟩ := hS.2.1.two; obtain ⟨q2, q3⟩ := hS.2.2.1.two; go_simp; exact zO hK
 refine zS (fun w' hS hV K hK => ?_) ?_
 · have e12 := zQ hV 12; have e13 := zQ hV 13; have q9 := hS.1; obtain ⟨q0, q1⟩ := hS.2.1.two; obtain ⟨q2, q3⟩ := hS.2.2.1.two; go_simp; refine (field_any _ _ _ _ _).mono ?_; rintro e v1 ⟨rfl, hb⟩; exact hK.out _ _ _ rfl rfl rfl hb
 refine zS (fun w' hS hV K hK => ?_) ?_
 · have e12 := zQ hV 12; have q9 := hS.1; obtain ⟨q0, q1⟩ := hS.2.1.two; obtain ⟨q2, q3⟩ := hS.2.2.1.two; go_simp; exact zO hK
 refine zS (fun w' hS hV K hK => ?_) ?_
 · have e12 := zQ hV 12; have e14 := zQ hV 14; have e15 := zQ hV 15; have q9 := hS.1; obtain ⟨q0, q1⟩ := hS.2.1.two; obtain ⟨q2, q3⟩ := hS.2.2.1.two; go_simp; refine (HIM.out _ hS.2.2.2).mono ?_; rintro e v1 ⟨rfl, rfl⟩; exact zO hK
 refine zS (fun w' hS hV K hK => ?_) ?_
 · have e12 := zQ hV 12; have e16 := zQ hV 16; have q9 := hS.1; obtain ⟨q0, q1⟩ := hS.2.1.two; obtain ⟨q2, q3⟩ := hS.2.2.1.two; go_simp; exact zO hK
 refine zS (fun w' hS hV K hK => ?_) ?_
 · have e12 := zQ hV 12; have e17 := zQ hV 17; have q9 := hS.1; obtain ⟨q0, q1⟩ := hS.2.1.two; obtain ⟨q2, q3⟩ := hS.2.2.1.two; go_simp; exact zO hK
 refine zS (fun w' hS hV K hK => ?_) ?_
 · have e18 := zQ hV 18; have q9 := hS.1; obtain ⟨q0, q1⟩ := hS.2.1.two; obtain ⟨q2, q3⟩ := hS.2.2.1.two; go_simp; exact zO hK
 refine zS (fun w' hS hV K hK => ?_) ?_
 · have e19 := zQ hV 19; have q9 := hS.1; obtain ⟨q0, q1⟩ := hS.2.1.two; obtain ⟨q2, q3⟩ := hS.2.2.1.two; go_simp; exact zO hK
 refine zS (fun w' hS hV K hK => ?_) ?_
 · have e19 := zQ hV 19; have e20 := zQ hV 20; have q9 := hS.1; obtain ⟨q0, q1⟩ := hS.2.1.two; obtain ⟨q2, q3⟩ := hS.2.2.1.two; go_simp; exact zO hK
 refine zS (fun w' hS hV K hK => ?_) ?_
 · have e19 := zQ hV 19; have q9 := hS.1; obtain ⟨q0, q1⟩ := hS.2.1.two; obtain ⟨q2, q3⟩ := hS.2.2.1.two; go_simp; exact zO hK
 refine zS (fun w' hS hV K hK => ?_) ?_
 · have e19 := zQ hV 19; have e22 := zQ hV 22; have q9 := hS.1; obtain ⟨q0, q1⟩ := hS.2.1.two; obtain ⟨q2, q3⟩ := hS.2.2.1.two; go_simp; refine (dim_any _ _ _ _ _).mono ?_; rintro e v1 ⟨rfl, hb⟩; exact hK.out _ _ _ rfl rfl rfl hb
 refine zS (fun w' hS hV K hK => ?_) ?_
 · have e19 := zQ hV 19; have e21 := zQ hV 21; have e23 := zQ hV 23; have q9 := hS.1; obtain ⟨q0, q1⟩ := hS.2.1.two; obtain ⟨q2, q3⟩ := hS.2.2.1.two; go_simp; exact zO hK
 refine zS (fun w' hS hV K hK => ?_) ?_
 · have e19 := zQ hV 19; have e24 := zQ hV 24; have q9 := hS.1; obtain ⟨q0, q1⟩ := hS.2.1.two; obtain ⟨q2, q3⟩ := hS.2.2.1.two; go_simp; exact zO hK
 refine zS (fun w' hS hV K hK => ?_) ?_
 · have e25 := zQ hV 25; have q9 := hS.1; obtain ⟨q0, q1⟩ := hS.2.1.two; obtain ⟨q2, q3⟩ := hS.2.2.1.two; go_simp; exact zO hK
 refine zS (fun w' hS hV K hK => ?_) ?_
 · have e26 := zQ hV 26; have q9 := hS.1; obtain ⟨q0, q1⟩ := hS.2.1.two; obtain ⟨q2, q3⟩ := hS.2.2.1.two; go_simp; exact zO hK
 refine zS (fun w' hS hV K hK => ?_) ?_
 · have e26 := zQ hV 26; have e27 := zQ hV 27; have q9 := hS.1; obtain ⟨q0, q1⟩ := hS.2.1.two; obtain ⟨q2, q3⟩ := hS.2.2.1.two; go_simp; exact zO hK
 refine zS (fun w' hS hV K hK => ?_) ?_
 · have e26 := zQ hV 26; have e28 := zQ hV 28; have q9 := hS.1; obtain ⟨q0, q1⟩ := hS.2.1.two; obtain ⟨q2, q3⟩ := hS.2.2.1.two; go_simp; exact zO hK
 refine zS (fun w' hS hV K hK => ?_) ?_
 · have e26 := zQ hV 26; have e29 := zQ hV 29; have q9 := hS.1; obtain ⟨q0, q1⟩ := hS.2.1.two; obtain ⟨q2, q3⟩ := hS.2.2.1.two; go_simp; exact zO hK
 refine zS (fun w' hS hV K hK => ?_) ?_
 · have e26 := zQ hV 26; have q9 := hS.1; obtain ⟨q0, q1⟩ := hS.2.1.two; obtain ⟨q2, q3⟩ := hS.2.2.1.two; go_simp; exact zO hK
 refine zS (fun w' hS hV K hK => ?_) ?_
 · have e26 := zQ hV 26; have e31 := zQ hV 31; have q9 := hS.1; obtain ⟨q0, q1⟩ := hS.2.1.two; obtain ⟨q2, q3⟩ := hS.2.2.1.two; go_simp; refine (dim_any _ _ _ _ _).mono ?_; rintro e v1 ⟨rfl, hb⟩; exact hK.out _ _ _ rfl rfl rfl hb
 refine zS (fun w' hS hV K hK => ?_) ?_
 · have e26 := zQ hV 26; have e30 := zQ hV 30; have e32 := zQ hV 32; have q9 := hS.1; obtain ⟨q0, q1⟩ := hS.2.1.two; obtain ⟨q2, q3⟩ := hS.2.2.1.two; go_simp; exact zO hK
 refine zS (fun w' hS hV K hK => ?_) ?_
 · have e26 := zQ hV 26; have e33 := zQ hV 33; have q9 := hS.1; obtain ⟨q0, q1⟩ := hS.2.1.two; obtain ⟨q2, q3⟩ := hS.2.2.1.two; go_simp; exact zO hK
 refine zS (fun w' hS hV K hK => ?_) ?_
 · have e34 := zQ hV 34; have q9 := hS.1; obtain ⟨q0, q1⟩ := hS.2.1.two; obtain ⟨q2, q3⟩ := hS.2.2.1.two; go_simp; exact zO hK
 refine zS (fun w' hS hV K hK => ?_) ?_
 · have e35 := zQ hV 35; have q9 := hS.1; obtain ⟨q0, q1⟩ := hS.2.1.two; obtain ⟨q2, q3⟩ := hS.2.2.1.two; go_simp; exact zO hK
 refine zS (fun w' hS hV K hK => ?_) ?_
 · have e35 := zQ hV 35; have e36 := zQ hV 36; have q9 := hS.1; obtain ⟨q0, q1⟩ := hS.2.1.two; obtain ⟨q2, q3⟩ := hS.2.2.1.two; go_simp; refine (field_any _ _ _ _ _).mono ?_; rintro e v1 ⟨rfl, hb⟩; exact hK.out _ _ _ rfl rfl rfl hb
 refine zS (fun w' hS hV K hK => ?_) ?_
 · have e35 := zQ hV 35; have q9 := hS.1; obtain ⟨q0, q1⟩ := hS.2.1.two; obtain ⟨q2, q3⟩ := hS.2.2.1.two; go_simp; exact zO hK
 refine zS (fun w' hS hV K hK => ?_) ?_
 · have e35 := zQ hV 35; have e37 := zQ hV 37; have e38 := zQ hV 38; have q9 := hS.1; obtain ⟨q0, q1⟩ := hS.2.1.two; obtain ⟨q2, q3⟩ := hS.2.2.1.two; go_simp; refine (HDE.out _ hS.2.2.2).mono ?_; rintro e v1 ⟨rfl, hb⟩; exact hK.out _ _ _ rfl rfl rfl hb
 refine zS (fun w' hS hV K hK => ?_) ?_
 · have e35 := zQ hV 35; have e39 := zQ hV 39; have q9 := hS.1; obtain ⟨q0, q1⟩ := hS.2.1.two; obtain ⟨q2, q3⟩ := hS.2.2.1.two; go_simp; exact zO hK
 refine zS (fun w' hS hV K hK => ?_) ?_
 · have e35 := zQ hV 35; have e40 := zQ hV 40; have q9 := hS.1; obtain ⟨q0, q1⟩ := hS.2.1.two; obtain ⟨q2, q3⟩ := hS.2.2.1.two; go_simp; exact zO hK
 refine fun w' hS hV => ?_
 have e0 := zT hV 0
 have e1 := zT hV 1
 have e2 := zT hV 2
 have e3 := zT hV 3
 have e4 := zT hV 4
 have e5 := zT hV 5
 have e6 := zT hV 6
 have e7 := zT hV 7
 have e8 := zT hV 8
 have e9 := zT hV 9
 have e10 := zT hV 10
 have e11 := zT hV 11
 have e12 := zT hV 12
 have e13 := zT hV 13
 have e14 := zT hV 14
 have e15 := zT hV 15
 have e16 := zT hV 16
 have e17 := zT hV 17
 have e18 := zT hV 18
 have e19 := zT hV 19
 have e20 := zT hV 20
 have e21 := zT hV 21
 have e22 := zT hV 22
 have e23 := zT hV 23
 have e24 := zT hV 24
 have e25 := zT hV 25
 have e26 := zT hV 26
 have e27 := zT hV 27
 have e28 := zT hV 28
 have e29 := zT hV 29
 have e30 := zT hV 30
 have e31 := zT hV 31
 have e32 := zT hV 32
 have e33 := zT hV 33
 have e34 := zT hV 34
 have e35 := zT hV 35
 have e36 := zT hV 36
 have e37 := zT hV 37
 have e38 := zT hV 38
 have e39 := zT hV 39
 have e40 := zT hV 40
 have e41 := zT hV 41
 simp only [e0, e1, e2, e3, e4, e5, e6, e7, e8, e9, e10, e11, e12, e13, e14, e15, e16, e17, e18, e19, e20, e21, e22, e23, e24, e25, e26, e27, e28, e29, e30, e31, e32, e33, e34, e35, e36, e37, e38, e39, e40, e41]
 clear e0 e1 e2 e3 e4 e5 e6 e7 e8 e9 e10 e11 e12 e13 e14 e15 e16 e17 e18 e19 e20 e21 e22 e23 e24 e25 e26 e27 e28 e29 e30 e31 e32 e33 e34 e35 e36 e37 e38 e39 e40 e41
 refine wpAny_done (by kernel_rfl) ?_ _
 obtain ⟨w3, rfl⟩ : ∃ W, W = w' := ⟨_, rfl⟩
 have k3 := hS.2.1
 have l3 := hS.2.2.1
 have hB3 := hS.2.2.2
 clear hS q0 q1 q2 q3 k0 k1 hB0 hc0 hb1
 cases b
 · have HDN := Lib.hid (HB.out.2 rfl)
   clear HB
   go_wp2_with fail
   refine (HTP.out w3 hB3).mono ?_
   rintro e w4 ⟨A4, c4, rfl, hM4⟩
   have k4 := k3.below hM4.b k3.lt
   have l4 := l3.below hM4.b l3.lt
   have hB4 := hB3.trans (hM4.b.mono hB3.size)
   have C4 := hM4.rd
   clear k3 l3 hB3 hM4
   go_wp2
   go_loopw [59] (fun i wr => ∃ j : Nat, j ≤ n ∧ i = .int .i64 j ∧ Below w4.heap.size w4 wr ∧ Hid (isTo P sq M (fun _ => sq.length) j 0)) (fun i _ => n - (intOf i).toNat)
   case atStart => exact ⟨0, by omega, rfl, Below.refl _ _, Lib.hid ⟨fun a ha => absurd ha (by omega), fun b hb => absurd hb (by omega)⟩⟩
   case round =>
    obtain ⟨i, hi, rfl, hbr, HI⟩ := hrel
    by_cases hlt : i < n
    · obtain ⟨gc, oc, rfl, hxi, Ai, ci, hci4, hri, -⟩ := C4.at_ hlt
      have hci := (hbr.cell (World.block_lt_of_cell? _ _ hci4)).trans hci4
      clear hci4
      have ht := HTT.out.1 _ (List.getElem_mem hxi)
      have li := ht.1
      rw [li] at hci hri
      have HNI := Lib.hid ht.2
      have HGI : Hid ((transL M).getD i [] = (transL M)[i]) := Lib.hid (getD_of_lt [] hxi)
      obtain ⟨vi, hvi⟩ : ∃ v, v = (transL M)[i] := ⟨_, rfl⟩
      rw [← hvi] at hri HNI HGI
      clear hvi ht li hxi
      obtain ⟨si, hsi⟩ : ∃ s, s = sq.getD i 0 := ⟨_, rfl⟩
      have HSI := Lib.hid hsi
      obtain ⟨ga, oa, eA, hxa, hca⟩ := HA.out.int hlt
      have hsv : sq[i] = si := by rw [hsi, getD_of_lt 0 hxa]
      rw [hsv] at hca
      have EA := Lib.hid eA
      clear hsi hsv hxa eA
      go_wp2
      go_loopw [66] (fun k wr => ∃ j : Nat, j ≤ n ∧ k = .int .i64 j ∧ Below w4.heap.size w4 wr ∧ Hid (isTo P sq M (fun _ => sq.length) i j)) (fun i _ => n - (intOf i).toNat)
      case atStart => exact ⟨0, by omega, rfl, hbr, HI⟩
      case round =>
       obtain ⟨k, hk, rfl, hb2, HK⟩ := hrel
       clear hbr hci
       by_cases hkt : k < n
       · obtain ⟨gc', oc', e9, hxk, Ak, ck, hck, hrk, -⟩ := (C4.below hb2).at_ hkt
         cases e9
         have ht := HTT.out.1 _ (List.getElem_mem hxk)
         have lk := ht.1
         rw [lk] at hck hrk
         have HNK := Lib.hid ht.2
         have HGK : Hid ((transL M).getD k [] = (transL M)[k]) := Lib.hid (getD_of_lt [] hxk)
         obtain ⟨vk, hvk⟩ : ∃ v, v = (transL M)[k] := ⟨_, rfl⟩
         rw [← hvk] at hrk HNK HGK
         clear hvk ht lk hxk
         have hB5 := hB4.trans (hb2.mono hB4.size)
         have k5 := k4.below hb2 k4.lt
         have l5 := l4.below hb2 l4.lt
         have hpr := pair_any P A n c sq Ai ci vi Ak ck vk wr (by omega) hp2 hn (HA.out.below hB5) HSN.out (hri.below hb2) HNI.out hrk HNK.out
         have HZZ : Hid (pairL P sq vi vk = colP P sq M i k) := Lib.hid (by unfold colP; rw [HGI.out, HGK.out])
         obtain ⟨z, hz⟩ : ∃ z, z = pairL P sq vi vk := ⟨_, rfl⟩
         rw [← hz] at hpr HZZ
         have hca5 : wr.cell? ⟨ga, oa + i, none⟩ = some (.int .i64 si) := (hB5.cell (World.block_lt_of_cell? _ _ hca)).trans hca
         have eA := EA.out
         subst eA
         clear hz hrk
         obtain ⟨q0, q1⟩ := k5.two
         obtain ⟨q2, q3⟩ := l5.two
         by_cases hik : i = k
         · subst hik
           obtain ⟨t, ht0⟩ : ∃ t, t = (z != si) := ⟨_, rfl⟩
           have ht1 : (z != si) = t := ht0.symm
           have HZ : Hid ((t = true → R = false) ∧ (t = false → isTo P sq M (fun _ => sq.length) i (i + 1))) := Lib.hid ⟨fun h => by rw [HR.out]; exact is_stop (by rw [HSL.out]; exact hlt) (by rw [HSL.out]; exact hlt) (by rw [← HZZ.out]; unfold colW; rw [if_pos rfl, ← HSI.out]; rw [h] at ht0; simpa using ht0.symm), fun h => HK.out.next (by rw [← HZZ.out]; unfold colW; rw [if_pos rfl, ← HSI.out]; rw [h] at ht0; simpa using ht0.symm)⟩
           have t9 : ((i : Int) == (i : Int)) = true := by simp
           clear ht0
           go_wp2_with fail
           refine hpr.mono ?_
           rintro e w6 ⟨rfl, hb6⟩
           clear hpr q0 q1 q2 q3
           cases t
           · have HZ1 := Lib.hid (HZ.out.2 rfl)
             clear HZ
             go_wp2
             go_roundw
             case rel => exact ⟨i + 1, by omega, by go_num, hb2.trans (hb6.mono hb2.size), HZ1⟩
             case measure => simp [intOf]; omega
           · obtain rfl : R = false := HZ.out.1 rfl
             clear HZ
             go_wp2
             go_ret
             exact ⟨rfl, hB5.trans (hb6.mono hB5.size)⟩
         · obtain ⟨t, ht0⟩ : ∃ t, t = (z != 0) := ⟨_, rfl⟩
           have ht1 : (z != 0) = t := ht0.symm
           have HZ : Hid ((t = true → R = false) ∧ (t = false → isTo P sq M (fun _ => sq.length) i (k + 1))) := Lib.hid ⟨fun h => by rw [HR.out]; exact is_stop (by rw [HSL.out]; exact hlt) (by rw [HSL.out]; exact hkt) (by rw [← HZZ.out]; unfold colW; rw [if_neg hik]; rw [h] at ht0; simpa using ht0.symm), fun h => HK.out.next (by rw [← HZZ.out]; unfold colW; rw [if_neg hik]; rw [h] at ht0; simpa using ht0.symm)⟩
           have t9 : ((i : Int) == (k : Int)) = false := by rw [beq_eq_false_iff_ne]; omega
           clear ht0 hik
           go_wp2_with fail
           refine hpr.mono ?_
           rintro e w6 ⟨rfl, hb6⟩
           clear hpr q0 q1 q2 q3
           cases t
           · have HZ1 := Lib.hid (HZ.out.2 rfl)
             clear HZ
             go_wp2
             go_roundw
             case rel => exact ⟨k + 1, by omega, by go_num, hb2.trans (hb6.mono hb2.size), HZ1⟩
             case measure => simp [intOf]; omega
           · obtain rfl : R = false := HZ.out.1 rfl
             clear HZ
             go_wp2
             go_ret
             exact ⟨rfl, hB5.trans (hb6.mono hB5.size)⟩
       · have HK1 : Hid (isTo P sq M (fun _ => sq.length) (i + 1) 0) := Lib.hid (HK.out.row (by rw [HSL.out]; omega))
         go_wp2
         go_roundw
         case rel => exact ⟨i + 1, by omega, by go_num, hb2, HK1⟩
         case measure => simp [intOf]; omega
    · obtain rfl : R = true := by
       rw [HR.out]
       have h := HI.out
       rw [show i = sq.length by rw [HSL.out]; omega] at h
       exact h.full HFR.out HDN.out
      go_wp2
      go_ret
      exact ⟨rfl, hB4.trans (hbr.mono hB4.size)⟩
 · obtain rfl : R = false := HB.out.1 rfl
   clear HB
   go_wp2
   go_ret
   exact ⟨rfl, hB3⟩
end Go.Proofs.YtmkjdpnoloofjaaGreat
