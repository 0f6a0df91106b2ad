/-
  LawFnTop: part 8 of the texts that the proof needs. No condition.
-/
import Derived.Test.YtmkjdpnoloofjaaGreatT7
namespace Go.Proofs.YtmkjdpnoloofjaaGreat
open Go.RowKit
set_option maxHeartbeats 6400000 in
set_option maxRecDepth 8000 in
theorem determinant_any (p : Int) (A : Option Addr) (n c : Nat) (M : List (List Int)) (w : World) (HP : isP p = true) (h0 : 0 < n) (hn : n ≤ 65536) (ha : RdII w A n M) (hT : Tab p n M) :
    Calls Tryz.prog 131 #[.int .i64 p, .slice A n c] w fun e w' => e = .returned (.int .i64 (detL p M)) ∧ Below w.heap.size w w' := by
 have hML := ha.len
 obtain ⟨hp3, hp2⟩ := isP_ge HP
 have hp : 2 ≤ p := by omega
 have HP' := Lib.hid HP
 have hclone := cloneRows_any p A n c M n w hn hn ha hT
 have HST : Hid (detL p M = detF p n M 0 1) := Lib.hid (by unfold detL; rw [hML])
 have HT := Lib.hid (And.intro hT hML)
 clear hT HP ha
 go_enter Tryz.func131, Tryz.ntmps131
 go_wp2_with fail
 refine hclone.mono ?_
 rintro e w1 ⟨A1, c1, rfl, hM1⟩
 clear hclone hML
 obtain ⟨g, rfl, -⟩ := hM1.at_ h0
 go_wp2
 go_loopw [6, 14] (fun o q wr => ∃ (i : Nat) (out : Int) (L : List (List Int)), o = .int .i64 out ∧ q = .int .i64 i ∧ i ≤ n ∧ (0 ≤ out ∧ out < p) ∧ Hid (detL p M = detF p (n - i) L i out) ∧ Hid (Tab p n L ∧ L.length = n) ∧ MkII w wr (some ⟨g, 0, none⟩) n c1 L) (fun _ q _ => n - (intOf q).toNat)
 case atStart => exact ⟨0, 1, M, rfl, rfl, by omega, by omega, Lib.hid (by rw [HST.out]; rfl), HT, hM1⟩
 case round =>
  obtain ⟨i, out, L, rfl, rfl, hin, hob, HD, HT1, hM⟩ := hrel
  clear hM1 HST HT
  have HM := Lib.hid hM
  have HBB := Lib.hid hM.b
  clear hM
  by_cases hli : i < n
  · have HSUC : Hid (detF p (n - i) L i out = detF p ((n - (i + 1)) + 1) L i out) := Lib.hid (by rw [show n - i = (n - (i + 1)) + 1 by omega])
    go_wp2
    go_loop [8] (fun q => ∃ j : Nat, i ≤ j ∧ j ≤ n ∧ q = .int .i64 j ∧ Hid (piv L i (n - j) j = pivOf L i i)) (fun q => n - (intOf q).toNat)
    case atStart => exact ⟨i, by omega, by omega, rfl, Lib.hid (by unfold pivOf; rw [HT1.out.2])⟩
    case round =>
     obtain ⟨j, hj1, hj2, rfl, hj3⟩ := hrel
     by_cases hlj : j < n
     · obtain ⟨g0, e0, hxj, Aj, cj, hcj, hrj⟩ := HM.out.at_ hlj
       injection e0 with e0; injection e0 with e0 _ _; subst e0
       have HRJ := Lib.hid (HT1.out.1 L[j] (List.getElem_mem hxj))
       have hlj2 : L[j].length = n := HRJ.out.1
       rw [hlj2] at hcj hrj
       obtain ⟨gj, oj, rfl, hxe, hce⟩ := hrj.rd.int hli
       have HE : Hid (ent L j i = L[j][i]) := Lib.hid (ent_at' hxj hxe)
       have HPV : Hid (piv L i (n - j) j = if ent L j i = 0 then piv L i (n - (j + 1)) (j + 1) else j) := Lib.hid (by
        rw [show n - j = (n - (j + 1)) + 1 by omega]; rfl)
       have HROW : Hid ((swapL L i j)[i]? = some L[j]) := Lib.hid (by
        rw [swapL_get? L (by rw [HT1.out.2]; exact hli) hxj]
        by_cases hdj : i = j
        · subst hdj; rw [if_pos rfl]; exact List.getElem?_eq_getElem hxj
        · rw [if_neg hdj, if_pos rfl]; exact List.getElem?_eq_getElem hxj)
       have HTS : Hid (Tab p n (swapL L i j) ∧ (swapL L i j).length = n) := Lib.hid ⟨swapL_tab HT1.out.1 (by rw [HT1.out.2]; exact hli) hxj, by rw [swapL_len, HT1.out.2]⟩
       obtain ⟨R, hR⟩ : ∃ R, R = L[j] := ⟨_, rfl⟩
       have HXE : Hid (∀ h : i < R.length, R[i] = L[j][i]) := Lib.hid (fun h => by simp only [hR])
       rw [← hR] at hrj HRJ HROW
       clear hlj2
       obtain ⟨xe, hxe'⟩ : ∃ x, x = L[j][i] := ⟨_, rfl⟩
       rw [← hxe'] at hce HE HXE
       have HX : Hid (0 ≤ xe ∧ xe < p) := Lib.hid (hxe' ▸ ((HT1.out.1 L[j] (List.getElem_mem hxj)).2 _ (List.getElem_mem hxe)))
       clear hxe' hxe hR hxj
       cases hz : (xe == 0)
       · have hne : xe ≠ 0 := by simpa using hz
         have HVP : Hid (pivOf L i i = j) := Lib.hid (by rw [← hj3.out, HPV.out, if_neg (by rw [HE.out]; exact hne)])
         have HEI : Hid (ent (swapL L i j) i i = xe) := Lib.hid (by
          have h1 := HROW.out
          have e1 : (swapL L i j).getD i [] = R := by rw [List.getD_eq_getElem?_getD, h1]; rfl
          have hl : i < R.length := by rw [HRJ.out.1]; exact hli
          unfold ent
          rw [e1, getD_of_lt 0 hl, HXE.out hl])
         have HNX : Hid (detL p M = detF p (n - (i + 1)) (dClr p (swapL L i j) i n) (i + 1) ((if j = i then out else (-out) % p) * xe % p)) := Lib.hid (by
          rw [HD.out, HSUC.out, detF_step (by rw [HVP.out, HT1.out.2]; omega), HVP.out, HEI.out, HT1.out.2])
         have hx1 := HX.out
         have hiv := invF_small hp xe
         have tj : ((j : Int) == (n : Int)) = false := by simp; omega
         by_cases hij : j = i
         · obtain rfl := hij
           have t2 : ((j : Int) != (j : Int)) = false := by simp
           have HSM : Hid (swapL L j j = L) := Lib.hid (swapL_same L (by rw [HT1.out.2]; exact hli))
           have HM2 := Lib.hid (show MkII w wr (some ⟨g, 0, none⟩) n c1 (swapL L j j) by rw [HSM.out]; exact HM.out)
           clear hrj hcj hce HSM
           obtain ⟨N, hN⟩ : ∃ N, N = swapL L j j := ⟨_, rfl⟩
           rw [← hN] at HM2 HTS HEI HNX HROW
           obtain ⟨o2, ho2⟩ : ∃ o2, o2 = out := ⟨_, rfl⟩
           have HO2 : Hid (0 ≤ o2 ∧ o2 < p) := Lib.hid (by rw [ho2]; exact hob)
           have HNXT : Hid (detL p M = detF p (n - (j + 1)) (dClr p N j n) (j + 1) (o2 * xe % p)) := Lib.hid (by rw [HNX.out, if_pos rfl, ho2])
           rw [← ho2]
           clear hN ho2 HNX
           obtain ⟨g0, e0, hxs, As, cs, hcs2, hrs⟩ := HM2.out.at_ hli
           injection e0 with e0; injection e0 with e0 _ _; subst e0
           have hrow : N[j] = R := by have := HROW.out; rw [List.getElem?_eq_getElem hxs] at this; exact Option.some.inj this
           rw [hrow] at hcs2 hrs
           have hRl := HRJ.out.1
           rw [hRl] at hcs2 hrs
           obtain ⟨gs, os, rfl, hxe2, hce2⟩ := hrs.rd.int hli
           rw [HXE.out hxe2] at hce2
           clear hrs hrow hxe2 hxs hRl
           have hob2 := HO2.out
           have hmb := mul_b (a := o2) (b := xe) (by omega) (by omega)
           have hw1 := i64_small (x := o2 * xe) (by omega) (by omega)
           have hnum := fun w' => num_any p (o2 * xe) w' (by omega) hp2 (by omega) (by omega)
           go_wp2_with fail
           refine (hnum _).mono ?_
           rintro e w5 ⟨rfl, rfl⟩
           clear hnum hce2 hcs2
           have HM3 := Lib.hid (show MkII w wr (some ⟨g, 0, none⟩) n c1 (dClr p N j (j + 1)) by rw [dClr_start]; exact HM2.out)
           have HOX : Hid (0 ≤ o2 * xe % p ∧ o2 * xe % p < p) := Lib.hid ⟨Int.emod_nonneg _ (by omega), Int.emod_lt_of_pos _ (by omega)⟩
           clear HM2 HM
           go_wp2
           go_loopw [9] (fun q w4 => ∃ r : Nat, j + 1 ≤ r ∧ r ≤ n ∧ q = .int .i64 r ∧ MkII w w4 (some ⟨g, 0, none⟩) n c1 (dClr p N j r)) (fun q _ => n - (intOf q).toNat)
           case atStart => exact ⟨j + 1, by omega, by omega, by go_num, HM3.out⟩
           case round =>
            obtain ⟨r, hr1, hr2, rfl, hM4⟩ := hrel
            clear HM3
            by_cases hlr : r < n
            · have hT4 : Tab p n (dClr p N j r) := dClr_tab (by omega) HTS.out.1 j r
              have hr4 : (dClr p N j r).getD r [] = N.getD r [] := by rw [dClr_getD (by rw [HTS.out.2]; exact hlr), if_neg (by omega)]
              have hd4 : (dClr p N j r).getD j [] = N.getD j [] := by rw [dClr_getD (by rw [HTS.out.2]; exact hli), if_neg (by omega)]
              obtain ⟨g0, e0, hxr, Ar, cr, hcr, hrr⟩ := hM4.at_ hlr
              injection e0 with e0; injection e0 with e0 _ _; subst e0
              obtain ⟨g0, e0, hxd, Ad2, cd2, hcd2, hrd2⟩ := hM4.at_ hli
              injection e0 with e0; injection e0 with e0 _ _; subst e0
              have HR1 := Lib.hid (hT4 _ (List.getElem_mem hxr))
              have HD1 := Lib.hid (hT4 _ (List.getElem_mem hxd))
              have hl1 := HR1.out.1
              have hl2 := HD1.out.1
              rw [getD_of_lt [] hxr] at hr4
              rw [getD_of_lt [] hxd] at hd4
              rw [hl1] at hcr hrr
              rw [hl2] at hcd2 hrd2
              rw [hr4] at hrr HR1
              rw [hd4] at hrd2 HD1
              obtain ⟨gr, or', rfl, hxy, hcy⟩ := hrr.rd.int hli
              obtain ⟨gd, od, rfl, hxz, hcz⟩ := hrd2.rd.int hli
              have hey : ent N r j = (N.getD r [])[j] := by unfold ent; rw [getD_of_lt 0 hxy]
              have hez : (N.getD j [])[j] = xe := by rw [← HEI.out]; unfold ent; rw [getD_of_lt 0 hxz]
              obtain ⟨y, hy⟩ : ∃ y, y = (N.getD r [])[j] := ⟨_, rfl⟩
              have hyb : 0 ≤ y ∧ y < p := hy ▸ HR1.out.2 _ (List.getElem_mem hxy)
              rw [← hy] at hcy hey
              rw [hez] at hcz
              have HDR : Hid (dRow p N j r = plusL p (N.getD r []) (N.getD j []) (-y * invF p xe)) := Lib.hid (by unfold dRow; rw [hey, HEI.out])
              have HM4 := Lib.hid hM4
              have HRR := Lib.hid hrr
              have HRD := Lib.hid hrd2
              clear hy hT4 hr4 hd4 hl1 hl2 hxr hxd hxy hxz hey hez hM4 hrr hrd2
              have hmy := mul_b (a := y) (b := invF p xe) (by omega) (by omega)
              have hneg : -y * invF p xe = -(y * invF p xe) := Int.neg_mul _ _
              have hwy := i64_small (x := -y) (by omega) (by omega)
              have hmy2 : y * invF p xe ≤ 144 := by
               have h9 := Int.mul_le_mul (show y ≤ 12 by omega) (show invF p xe ≤ 12 by omega) hiv.1 (by omega : (0 : Int) ≤ 12)
               omega
              have hwm := i64_small (x := -y * invF p xe) (by omega) (by omega)
              have hk1 : -1000 ≤ -y * invF p xe := by omega
              have hk2 : -y * invF p xe ≤ 1000 := by omega
              have HK := Lib.hid (And.intro hk1 hk2)
              clear hneg hmy hmy2 hk1 hk2
              go_wp2
              refine wp_obs 31 [[],[],[],[],[],[3,4],[3,4,5],[],[],[7,8],[7,8,9],[],[],[11,12],[11,12,13],[],[11,12,13,14,15],[11,12,13,14,15,16],[11,12,13,14,15,16,17],[],[],[],[20,21],[20,21,22],[],[20,21,22,23,24],[20,21,22,23,24,25],[19,20,21,22,23,24,25,26],[11,12,13,14,15,16,17,18,19,20,21,22,23,24,25,26,27],[2,3,4,5,6,7,8,9,10,11,12,13,14,15,16,17,18,19,20,21,22,23,24,25,26,27,28],[0,1],[0,1,2,3,4,5,6,7,8,9,10,11,12,13,14,15,16,17,18,19,20,21,22,23,24,25,26,27,28,29,30]] [VIs (.slice (some ⟨g, 0, none⟩) n c1), VIs (.int .i64 (r)), VIs (.int .i64 (p)), VIs (.slice (some ⟨g, 0, none⟩) n c1), VIs (.int .i64 (r)), VIs (.pointer (some ⟨g, r, none⟩)), VIs (.slice (some ⟨gr, or', none⟩) n cr), VIs (.slice (some ⟨g, 0, none⟩) n c1), VIs (.int .i64 (j)), VIs (.pointer (some ⟨g, j, none⟩)), VIs (.slice (some ⟨gd, od, none⟩) n cd2), VIs (.slice (some ⟨g, 0, none⟩) n c1), VIs (.int .i64 (r)), VIs (.pointer (some ⟨g, r, none⟩)), VIs (.slice (some ⟨gr, or', none⟩) n cr), VIs (.int .i64 (j)), VIs (.pointer (some ⟨gr, or' + j, none⟩)), VIs (.int .i64 (y)), VIs (.int .i64 (-y)), VIs (.int .i64 (p)), VIs (.slice (some ⟨g, 0, none⟩) n c1), VIs (.int .i64 (j)), VIs (.pointer (some ⟨g, j, none⟩)), VIs (.slice (some ⟨gd, od, none⟩) n cd2), VIs (.int .i64 (j)), VIs (.pointer (some ⟨gd, od + j, none⟩)), VIs (.int .i64 (xe)), VIs (.int .i64 (invF p xe)), VIs (.int .i64 (-y * invF p xe)), VSl wr n (plusL p (N.getD r []) (N.getD j []) (-y * invF p xe)), VIs (.pointer (some ⟨g, r, none⟩))] (fun w' => w'.cell? ⟨g, r, none⟩ = some (.slice (some ⟨gr, or', none⟩) n cr) ∧ w'.cell? ⟨g, j, none⟩ = some (.slice (some ⟨gd, od, none⟩) n cd2) ∧ w'.cell? ⟨gr, or' + j, none⟩ = some (.int .i64 y) ∧ w'.cell? ⟨gd, od + j, none⟩ = some (.int .i64 xe) ∧ Below wr.heap.size wr w') (by kernel_rfl) (by kernel_rfl) (fun _ _ h hb => ⟨(hb.cell (World.block_lt_of_cell? _ _ h.1)).trans h.1, (hb.cell (World.block_lt_of_cell? _ _ h.2.1)).trans h.2.1, (hb.cell (World.block_lt_of_cell? _ _ h.2.2.1)).trans h.2.2.1, (hb.cell (World.block_lt_of_cell? _ _ h.2.2.2.1)).trans h.2.2.2.1, h.2.2.2.2.trans (hb.mono h.2.2.2.2.size)⟩) (⟨hcr, hcd2, hcy, hcz, zG.drew⟩) (fun x => ?_)
              refine zS (fun w' hS hV K hK => ?_) ?_
              · have q0 := hS.1; have q1 := hS.2.1; have q2 := hS.2.2.1; have q3 := hS.2.2.2.1; go_simp; exact zO hK
              refine zS (fun w' hS hV K hK => ?_) ?_
              · have q0 := hS.1; have q1 := hS.2.1; have q2 := hS.2.2.1; have q3 := hS.2.2.2.1; go_simp; exact zO hK
              refine zS (fun w' hS hV K hK => ?_) ?_
              · have q0 := hS.1; have q1 := hS.2.1; have q2 := hS.2.2.1; have q3 := hS.2.2.2.1; go_simp; exact zO hK
              refine zS (fun w' hS hV K hK => ?_) ?_
              · have q0 := hS.1; have q1 := hS.2.1; have q2 := hS.2.2.1; have q3 := hS.2.2.2.1; go_simp; exact zO hK
              refine zS (fun w' hS hV K hK => ?_) ?_
              · have q0 := hS.1; have q1 := hS.2.1; have q2 := hS.2.2.1; have q3 := hS.2.2.2.1; go_simp; exact zO hK
              refine zS (fun w' hS hV K hK => ?_) ?_
              · have e3 := zQ hV 3; have e4 := zQ hV 4; have q0 := hS.1; have q1 := hS.2.1; have q2 := hS.2.2.1; have q3 := hS.2.2.2.1; go_simp; exact zO hK
              refine zS (fun w' hS hV K hK => ?_) ?_
              · have e5 := zQ hV 5; have q0 := hS.1; have q1 := hS.2.1; have q2 := hS.2.2.1; have q3 := hS.2.2.2.1; go_simp; exact zO hK
              refine zS (fun w' hS hV K hK => ?_) ?_
              · have q0 := hS.1; have q1 := hS.2.1; have q2 := hS.2.2.1; have q3 := hS.2.2.2.1; go_simp; exact zO hK
              refine zS (fun w' hS hV K hK => ?_) ?_
              · have q0 := hS.1; have q1 := hS.2.1; have q2 := hS.2.2.1; have q3 := hS.2.2.2.1; go_simp; exact zO hK
              refine zS (fun w' hS hV K hK => ?_) ?_
              · have e7 := zQ hV 7; have e8 := zQ hV 8; have q0 := hS.1; have q1 := hS.2.1; have q2 := hS.2.2.1; have q3 := hS.2.2.2.1; go_simp; exact zO hK
              refine zS (fun w' hS hV K hK => ?_) ?_
              · have e9 := zQ hV 9; have q0 := hS.1; have q1 := hS.2.1; have q2 := hS.2.2.1; have q3 := hS.2.2.2.1; go_simp; exact zO hK
              refine zS (fun w' hS hV K hK => ?_) ?_
              · have q0 := hS.1; have q1 := hS.2.1; have q2 := hS.2.2.1; have q3 := hS.2.2.2.1; go_simp; exact zO hK
              refine zS (fun w' hS hV K hK => ?_) ?_
              · have q0 := hS.1; have q1 := hS.2.1; have q2 := hS.2.2.1; have q3 := hS.2.2.2.1; go_simp; exact zO hK
              refine zS (fun w' hS hV K hK => ?_) ?_
              · have e11 := zQ hV 11; have e12 := zQ hV 12; have q0 := hS.1; have q1 := hS.2.1; have q2 := hS.2.2.1; have q3 := hS.2.2.2.1; go_simp; exact zO hK
              refine zS (fun w' hS hV K hK => ?_) ?_
              · have e13 := zQ hV 13; have q0 := hS.1; have q1 := hS.2.1; have q2 := hS.2.2.1; have q3 := hS.2.2.2.1; go_simp; exact zO hK
              refine zS (fun w' hS hV K hK => ?_) ?_
              · have q0 := hS.1; have q1 := hS.2.1; have q2 := hS.2.2.1; have q3 := hS.2.2.2.1; go_simp; exact zO hK
              refine zS (fun w' hS hV K hK => ?_) ?_
              · have e14 := zQ hV 14; have e15 := zQ hV 15; have q0 := hS.1; have q1 := hS.2.1; have q2 := hS.2.2.1; have q3 := hS.2.2.2.1; go_simp; exact zO hK
              refine zS (fun w' hS hV K hK => ?_) ?_
              · have e16 := zQ hV 16; have q0 := hS.1; have q1 := hS.2.1; have q2 := hS.2.2.1; have q3 := hS.2.2.2.1; go_simp; exact zO hK
              refine zS (fun w' hS hV K hK => ?_) ?_
              · have e17 := zQ hV 17; have q0 := hS.1; have q1 := hS.2.1; have q2 := hS.2.2.1; have q3 := hS.2.2.2.1; go_simp; exact zO hK
              refine zS (fun w' hS hV K hK => ?_) ?_
              · have q0 := hS.1; have q1 := hS.2.1; have q2 := hS.2.2.1; have q3 := hS.2.2.2.1; go_simp; exact zO hK
              refine zS (fun w' hS hV K hK => ?_) ?_
              · have q0 := hS.1; have q1 := hS.2.1; have q2 := hS.2.2.1; have q3 := hS.2.2.2.1; go_simp; exact zO hK
              refine zS (fun w' hS hV K hK => ?_) ?_
              · have q0 := hS.1; have q1 := hS.2.1; have q2 := hS.2.2.1; have q3 := hS.2.2.2.1; go_simp; exact zO hK
              refine zS (fun w' hS hV K hK => ?_) ?_
              · have e20 := zQ hV 20; have e21 := zQ hV 21; have q0 := hS.1; have q1 := hS.2.1; have q2 := hS.2.2.1; have q3 := hS.2.2.2.1; go_simp; exact zO hK
              refine zS (fun w' hS hV K hK => ?_) ?_
              · have e22 := zQ hV 22; have q0 := hS.1; have q1 := hS.2.1; have q2 := hS.2.2.1; have q3 := hS.2.2.2.1; go_simp; exact zO hK
              refine zS (fun w' hS hV K hK => ?_) ?_
              · have q0 := hS.1; have q1 := hS.2.1; have q2 := hS.2.2.1; have q3 := hS.2.2.2.1; go_simp; exact zO hK
              refine zS (fun w' hS hV K hK => ?_) ?_
              · have e23 := zQ hV 23; have e24 := zQ hV 24; have q0 := hS.1; have q1 := hS.2.1; have q2 := hS.2.2.1; have q3 := hS.2.2.2.1; go_simp; exact zO hK
              refine zS (fun w' hS hV K hK => ?_) ?_
              · have e25 := zQ hV 25; have q0 := hS.1; have q1 := hS.2.1; have q2 := hS.2.2.1; have q3 := hS.2.2.2.1; go_simp; exact zO hK
              refine zS (fun w' hS hV K hK => ?_) ?_
              · have e19 := zQ hV 19; have e26 := zQ hV 26; have q0 := hS.1; have q1 := hS.2.1; have q2 := hS.2.2.1; have q3 := hS.2.2.2.1; go_simp; refine (inv_any p xe _ hp hp2 hx1.1 hx1.2).mono ?_; rintro e v1 ⟨rfl, rfl⟩; exact zO hK
              refine zS (fun w' hS hV K hK => ?_) ?_
              · have e18 := zQ hV 18; have e27 := zQ hV 27; have q0 := hS.1; have q1 := hS.2.1; have q2 := hS.2.2.1; have q3 := hS.2.2.2.1; go_simp; exact zO hK
              refine zS (fun w' hS hV K hK => ?_) ?_
              · have e2 := zQ hV 2; have e6 := zQ hV 6; have e10 := zQ hV 10; have e28 := zQ hV 28; have q0 := hS.1; have q1 := hS.2.1; have q2 := hS.2.2.1; have q3 := hS.2.2.2.1; go_simp; refine (plus_any p _ n _ _ n _ (-y * invF p xe) _ _ _ hp hp2 hn (Nat.le_refl _) (HRR.out.rd.below hS.2.2.2.2) HR1.out.2 (HRD.out.rd.below hS.2.2.2.2) HD1.out.2 HK.out.1 HK.out.2).mono ?_; rintro e v1 ⟨A2, c2, rfl, hM⟩; exact hK.out _ _ _ rfl rfl ⟨_, _, rfl, hM.after hS.2.2.2.2⟩ hM.b
              refine zS (fun w' hS hV K hK => ?_) ?_
              · have e0 := zQ hV 0; have e1 := zQ hV 1; have q0 := hS.1; have q1 := hS.2.1; have q2 := hS.2.2.1; have q3 := hS.2.2.2.1; go_simp; exact zO hK
              refine fun w' hS hV => ?_
              have e0 := zT hV 0
              have e1 := zT hV 1
              have e2 := zT hV 2
              have e3 := zT hV 3
              have e4 := zT hV 4
              have e5 := zT hV 5
              have e6 := zT hV 6
              have e7 := zT hV 7
              have e8 := zT hV 8
              have e9 := zT hV 9
              have e10 := zT hV 10
              have e11 := zT hV 11
              have e12 := zT hV 12
              have e13 := zT hV 13
              have e14 := zT hV 14
              have e15 := zT hV 15
              have e16 := zT hV 16
              have e17 := zT hV 17
              have e18 := zT hV 18
              have e19 := zT hV 19
              have e20 := zT hV 20
              have e21 := zT hV 21
              have e22 := zT hV 22
              have e23 := zT hV 23
              have e24 := zT hV 24
              have e25 := zT hV 25
              have e26 := zT hV 26
              have e27 := zT hV 27
              have e28 := zT hV 28
              obtain ⟨A29, c29, e29, h29⟩ := hV 29 (by decide)
              have e30 := zT hV 30
              simp only [e0, e1, e2, e3, e4, e5, e6, e7, e8, e9, e10, e11, e12, e13, e14, e15, e16, e17, e18, e19, e20, e21, e22, e23, e24, e25, e26, e27, e28, e29, e30]
              clear e0 e1 e2 e3 e4 e5 e6 e7 e8 e9 e10 e11 e12 e13 e14 e15 e16 e17 e18 e19 e20 e21 e22 e23 e24 e25 e26 e27 e28 e29 e30
              have hbn := hS.2.2.2.2
              have q0 := hS.1
              have ff := (HM4.out.below hbn).frozen_ r
              refine any_one (j := 31) (by kernel_rfl) (Eq.trans (by simp only [zA, zB, zC]; exact rfl) rfl) (fun K hK => ?_)
              go_simp
              refine hK.out _ _ (wpAny_done (by kernel_rfl) ?_ _)
              have hM5 := HM4.out.setRow h29 r
              have hM6 : MkII w (w'.setCell ⟨g, r, none⟩ (.slice A29 n c29)) (some ⟨g, 0, none⟩) n c1 (dClr p N j (r + 1)) := by
               rw [dClr_succ (by rw [HTS.out.2]; exact hlr) (by omega), HDR.out]
               exact hM5
              clear q0 ff hM5 h29 hbn hS hV
              go_wp2
              go_roundw
              case rel => exact ⟨r + 1, by omega, by omega, by go_num, hM6⟩
              case measure => simp [intOf]; omega
            · obtain rfl : r = n := by omega
              have HM4 := Lib.hid hM4
              clear hM4
              go_wp2
              go_roundw
              case rel => exact ⟨j + 1, o2 * xe % p, dClr p N j r, rfl, by go_num, by omega, HOX.out, HNXT, Lib.hid ⟨dClr_tab (by omega) HTS.out.1 _ _, by rw [dClr_len, HTS.out.2]⟩, HM4.out⟩
              case measure => simp [intOf]; omega
         · skip
           have t2 : ((j : Int) != (i : Int)) = true := by simp; omega
           have t3 : decide ((i : Int) < (j : Int)) = true := by simp; omega
           obtain ⟨g0, e0, hxd, Ad, cd, hcd, hrd⟩ := HM.out.at_ hli
           injection e0 with e0; injection e0 with e0 _ _; subst e0
           have hld2 : L[i].length = n := (HT1.out.1 L[i] (List.getElem_mem hxd)).1
           rw [hld2] at hcd hrd
           have fd := HM.out.frozen_ i
           have fj := HM.out.frozen_ j
           have HSW := Lib.hid (HM.out.swap hli hlj hcd hcj)
           obtain ⟨uj, hcs⟩ := HM.out.cellSet i (A1 := some ⟨gj, oj, none⟩) (m := n) (c1 := cj) hlj
           have hwn := i64_small (x := -out) (by omega) (by omega)
           have hnum0 := fun w' => num_any p (-out) w' (by omega) hp2 (by omega) (by omega)
           clear hrj hrd hld2 hxd
           go_wp2
           go_region
           obtain ⟨w2, hw2⟩ : ∃ W, W = ((wr.setCell ⟨g, i, none⟩ (.slice (some ⟨gj, oj, none⟩) n cj)).setCell ⟨g, j, none⟩ (.slice Ad n cd)).drew := ⟨_, rfl⟩
           have hM2 : MkII w w2 (some ⟨g, 0, none⟩) n c1 (swapL L i j) := by rw [hw2]; exact HSW.out.below (zG.drew)
           rw [← hw2]
           clear hw2 HSW hcs fd fj hcd hcj hce
           go_wp2_with fail
           refine (hnum0 _).mono ?_
           rintro e w3 ⟨rfl, rfl⟩
           clear hnum0
           have HM2 := Lib.hid hM2
           clear hM2
           obtain ⟨N, hN⟩ : ∃ N, N = swapL L i j := ⟨_, rfl⟩
           rw [← hN] at HM2 HTS HEI HNX HROW
           obtain ⟨o2, ho2⟩ : ∃ o2, o2 = (-out) % p := ⟨_, rfl⟩
           have HO2 : Hid (0 ≤ o2 ∧ o2 < p) := Lib.hid (by rw [ho2]; exact ⟨Int.emod_nonneg _ (by omega), Int.emod_lt_of_pos _ (by omega)⟩)
           have HNXT : Hid (detL p M = detF p (n - (i + 1)) (dClr p N i n) (i + 1) (o2 * xe % p)) := Lib.hid (by rw [HNX.out, if_neg hij, ho2])
           rw [← ho2]
           clear hN ho2 HNX
           obtain ⟨g0, e0, hxs, As, cs, hcs2, hrs⟩ := HM2.out.at_ hli
           injection e0 with e0; injection e0 with e0 _ _; subst e0
           have hrow : N[i] = R := by have := HROW.out; rw [List.getElem?_eq_getElem hxs] at this; exact Option.some.inj this
           rw [hrow] at hcs2 hrs
           have hRl := HRJ.out.1
           rw [hRl] at hcs2 hrs
           obtain ⟨gs, os, rfl, hxe2, hce2⟩ := hrs.rd.int hli
           rw [HXE.out hxe2] at hce2
           clear hrs hrow hxe2 hxs hRl
           have hob2 := HO2.out
           have hmb := mul_b (a := o2) (b := xe) (by omega) (by omega)
           have hw1 := i64_small (x := o2 * xe) (by omega) (by omega)
           have hnum := fun w' => num_any p (o2 * xe) w' (by omega) hp2 (by omega) (by omega)
           go_wp2_with fail
           refine (hnum _).mono ?_
           rintro e w5 ⟨rfl, rfl⟩
           clear hnum hce2 hcs2
           have HM3 := Lib.hid (show MkII w w2 (some ⟨g, 0, none⟩) n c1 (dClr p N i (i + 1)) by rw [dClr_start]; exact HM2.out)
           have HOX : Hid (0 ≤ o2 * xe % p ∧ o2 * xe % p < p) := Lib.hid ⟨Int.emod_nonneg _ (by omega), Int.emod_lt_of_pos _ (by omega)⟩
           clear HM2 HM
           go_wp2
           go_loopw [9] (fun q w4 => ∃ r : Nat, i + 1 ≤ r ∧ r ≤ n ∧ q = .int .i64 r ∧ MkII w w4 (some ⟨g, 0, none⟩) n c1 (dClr p N i r)) (fun q _ => n - (intOf q).toNat)
           case atStart => exact ⟨i + 1, by omega, by omega, by go_num, HM3.out⟩
           case round =>
            obtain ⟨r, hr1, hr2, rfl, hM4⟩ := hrel
            clear HM3
            by_cases hlr : r < n
            · have hT4 : Tab p n (dClr p N i r) := dClr_tab (by omega) HTS.out.1 i r
              have hr4 : (dClr p N i r).getD r [] = N.getD r [] := by rw [dClr_getD (by rw [HTS.out.2]; exact hlr), if_neg (by omega)]
              have hd4 : (dClr p N i r).getD i [] = N.getD i [] := by rw [dClr_getD (by rw [HTS.out.2]; exact hli), if_neg (by omega)]
              obtain ⟨g0, e0, hxr, Ar, cr, hcr, hrr⟩ := hM4.at_ hlr
              injection e0 with e0; injection e0 with e0 _ _; subst e0
              obtain ⟨g0, e0, hxd, Ad2, cd2, hcd2, hrd2⟩ := hM4.at_ hli
              injection e0 with e0; injection e0 with e0 _ _; subst e0
              have HR1 := Lib.hid (hT4 _ (List.getElem_mem hxr))
              have HD1 := Lib.hid (hT4 _ (List.getElem_mem hxd))
              have hl1 := HR1.out.1
              have hl2 := HD1.out.1
              rw [getD_of_lt [] hxr] at hr4
              rw [getD_of_lt [] hxd] at hd4
              rw [hl1] at hcr hrr
              rw [hl2] at hcd2 hrd2
              rw [hr4] at hrr HR1
              rw [hd4] at hrd2 HD1
              obtain ⟨gr, or', rfl, hxy, hcy⟩ := hrr.rd.int hli
              obtain ⟨gd, od, rfl, hxz, hcz⟩ := hrd2.rd.int hli
              have hey : ent N r i = (N.getD r [])[i] := by unfold ent; rw [getD_of_lt 0 hxy]
              have hez : (N.getD i [])[i] = xe := by rw [← HEI.out]; unfold ent; rw [getD_of_lt 0 hxz]
              obtain ⟨y, hy⟩ : ∃ y, y = (N.getD r [])[i] := ⟨_, rfl⟩
              have hyb : 0 ≤ y ∧ y < p := hy ▸ HR1.out.2 _ (List.getElem_mem hxy)
              rw [← hy] at hcy hey
              rw [hez] at hcz
              have HDR : Hid (dRow p N i r = plusL p (N.getD r []) (N.getD i []) (-y * invF p xe)) := Lib.hid (by unfold dRow; rw [hey, HEI.out])
              have HM4 := Lib.hid hM4
              have HRR := Lib.hid hrr
              have HRD := Lib.hid hrd2
              clear hy hT4 hr4 hd4 hl1 hl2 hxr hxd hxy hxz hey hez hM4 hrr hrd2
              have hmy := mul_b (a := y) (b := invF p xe) (by omega) (by omega)
              have hneg : -y * invF p xe = -(y * invF p xe) := Int.neg_mul _ _
              have hwy := i64_small (x := -y) (by omega) (by omega)
              have hmy2 : y * invF p xe ≤ 144 := by
               have h9 := Int.mul_le_mul (show y ≤ 12 by omega) (show invF p xe ≤ 12 by omega) hiv.1 (by omega : (0 : Int) ≤ 12)
               omega
              have hwm := i64_small (x := -y * invF p xe) (by omega) (by omega)
              have hk1 : -1000 ≤ -y * invF p xe := by omega
              have hk2 : -y * invF p xe ≤ 1000 := by omega
              have HK := Lib.hid (And.intro hk1 hk2)
              clear hneg hmy hmy2 hk1 hk2
              go_wp2
              refine wp_obs 31 [[],[],[],[],[],[3,4],[3,4,5],[],[],[7,8],[7,8,9],[],[],[11,12],[11,12,13],[],[11,12,13,14,15],[11,12,13,14,15,16],[11,12,13,14,15,16,17],[],[],[],[20,21],[20,21,22],[],[20,21,22,23,24],[20,21,22,23,24,25],[19,20,21,22,23,24,25,26],[11,12,13,14,15,16,17,18,19,20,21,22,23,24,25,26,27],[2,3,4,5,6,7,8,9,10,11,12,13,14,15,16,17,18,19,20,21,22,23,24,25,26,27,28],[0,1],[0,1,2,3,4,5,6,7,8,9,10,11,12,13,14,15,16,17,18,19,20,21,22,23,24,25,26,27,28,29,30]] [VIs (.slice (some ⟨g, 0, none⟩) n c1), VIs (.int .i64 (r)), VIs (.int .i64 (p)), VIs (.slice (some ⟨g, 0, none⟩) n c1), VIs (.int .i64 (r)), VIs (.pointer (some ⟨g, r, none⟩)), VIs (.slice (some ⟨gr, or', none⟩) n cr), VIs (.slice (some ⟨g, 0, none⟩) n c1), VIs (.int .i64 (i)), VIs (.pointer (some ⟨g, i, none⟩)), VIs (.slice (some ⟨gd, od, none⟩) n cd2), VIs (.slice (some ⟨g, 0, none⟩) n c1), VIs (.int .i64 (r)), VIs (.pointer (some ⟨g, r, none⟩)), VIs (.slice (some ⟨gr, or', none⟩) n cr), VIs (.int .i64 (i)), VIs (.pointer (some ⟨gr, or' + i, none⟩)), VIs (.int .i64 (y)), VIs (.int .i64 (-y)), VIs (.int .i64 (p)), VIs (.slice (some ⟨g, 0, none⟩) n c1), VIs (.int .i64 (i)), VIs (.pointer (some ⟨g, i, none⟩)), VIs (.slice (some ⟨gd, od, none⟩) n cd2), VIs (.int .i64 (i)), VIs (.pointer (some ⟨gd, od + i, none⟩)), VIs (.int .i64 (xe)), VIs (.int .i64 (invF p xe)), VIs (.int .i64 (-y * invF p xe)), VSl wr n (plusL p (N.getD r []) (N.getD i []) (-y * invF p xe)), VIs (.pointer (some ⟨g, r, none⟩))] (fun w' => w'.cell? ⟨g, r, none⟩ = some (.slice (some ⟨gr, or', none⟩) n cr) ∧ w'.cell? ⟨g, i, none⟩ = some (.slice (some ⟨gd, od, none⟩) n cd2) ∧ w'.cell? ⟨gr, or' + i, none⟩ = some (.int .i64 y) ∧ w'.cell? ⟨gd, od + i, none⟩ = some (.int .i64 xe) ∧ Below wr.heap.size wr w') (by kernel_rfl) (by kernel_rfl) (fun _ _ h hb => ⟨(hb.cell (World.block_lt_of_cell? _ _ h.1)).trans h.1, (hb.cell (World.block_lt_of_cell? _ _ h.2.1)).trans h.2.1, (hb.cell (World.block_lt_of_cell? _ _ h.2.2.1)).trans h.2.2.1, (hb.cell (World.block_lt_of_cell? _ _ h.2.2.2.1)).trans h.2.2.2.1, h.2.2.2.2.trans (hb.mono h.2.2.2.2.size)⟩) (⟨hcr, hcd2, hcy, hcz, zG.drew⟩) (fun x => ?_)
              refine zS (fun w' hS hV K hK => ?_) ?_
              · have q0 := hS.1; have q1 := hS.2.1; have q2 := hS.2.2.1; have q3 := hS.2.2.2.1; go_simp; exact zO hK
              refine zS (fun w' hS hV K hK => ?_) ?_
              · have q0 := hS.1; have q1 := hS.2.1; have q2 := hS.2.2.1; have q3 := hS.2.2.2.1; go_simp; exact zO hK
              refine zS (fun w' hS hV K hK => ?_) ?_
              · have q0 := hS.1; have q1 := hS.2.1; have q2 := hS.2.2.1; have q3 := hS.2.2.2.1; go_simp; exact zO hK
              refine zS (fun w' hS hV K hK => ?_) ?_
              · have q0 := hS.1; have q1 := hS.2.1; have q2 := hS.2.2.1; have q3 := hS.2.2.2.1; go_simp; exact zO hK
              refine zS (fun w' hS hV K hK => ?_) ?_
              · have q0 := hS.1; have q1 := hS.2.1; have q2 := hS.2.2.1; have q3 := hS.2.2.2.1; go_simp; exact zO hK
              refine zS (fun w' hS hV K hK => ?_) ?_
              · have e3 := zQ hV 3; have e4 := zQ hV 4; have q0 := hS.1; have q1 := hS.2.1; have q2 := hS.2.2.1; have q3 := hS.2.2.2.1; go_simp; exact zO hK
              refine zS (fun w' hS hV K hK => ?_) ?_
              · have e5 := zQ hV 5; have q0 := hS.1; have q1 := hS.2.1; have q2 := hS.2.2.1; have q3 := hS.2.2.2.1; go_simp; exact zO hK
              refine zS (fun w' hS hV K hK => ?_) ?_
              · have q0 := hS.1; have q1 := hS.2.1; have q2 := hS.2.2.1; have q3 := hS.2.2.2.1; go_simp; exact zO hK
              refine zS (fun w' hS hV K hK => ?_) ?_
              · have q0 := hS.1; have q1 := hS.2.1; have q2 := hS.2.2.1; have q3 := hS.2.2.2.1; go_simp; exact zO hK
              refine zS (fun w' hS hV K hK => ?_) ?_
              · have e7 := zQ hV 7; have e8 := zQ hV 8; have q0 := hS.1; have q1 := hS.2.1; have q2 := hS.2.2.1; have q3 := hS.2.2.2.1; go_simp; exact zO hK
              refine zS (fun w' hS hV K hK => ?_) ?_
              · have e9 := zQ hV 9; have q0 := hS.1; have q1 := hS.2.1; have q2 := hS.2.2.1; have q3 := hS.2.2.2.1; go_simp; exact zO hK
              refine zS (fun w' hS hV K hK => ?_) ?_
              · have q0 := hS.1; have q1 := hS.2.1; have q2 := hS.2.2.1; have q3 := hS.2.2.2.1; go_simp; exact zO hK
              refine zS (fun w' hS hV K hK => ?_) ?_
              · have q0 := hS.1; have q1 := hS.2.1; have q2 := hS.2.2.1; have q3 := hS.2.2.2.1; go_simp; exact zO hK
              refine zS (fun w' hS hV K hK => ?_) ?_
              · have e11 := zQ hV 11; have e12 := zQ hV 12; have q0 := hS.1; have q1 := hS.2.1; have q2 := hS.2.2.1; have q3 := hS.2.2.2.1; go_simp; exact zO hK
              refine zS (fun w' hS hV K hK => ?_) ?_
              · have e13 := zQ hV 13; have q0 := hS.1; have q1 := hS.2.1; have q2 := hS.2.2.1; have q3 := hS.2.2.2.1; go_simp; exact zO hK
              refine zS (fun w' hS hV K hK => ?_) ?_
              · have q0 := hS.1; have q1 := hS.2.1; have q2 := hS.2.2.1; have q3 := hS.2.2.2.1; go_simp; exact zO hK
              refine zS (fun w' hS hV K hK => ?_) ?_
              · have e14 := zQ hV 14; have e15 := zQ hV 15; have q0 := hS.1; have q1 := hS.2.1; have q2 := hS.2.2.1; have q3 := hS.2.2.2.1; go_simp; exact zO hK
              refine zS (fun w' hS hV K hK => ?_) ?_
              · have e16 := zQ hV 16; have q0 := hS.1; have q1 := hS.2.1; have q2 := hS.2.2.1; have q3 := hS.2.2.2.1; go_simp; exact zO hK
              refine zS (fun w' hS hV K hK => ?_) ?_
              · have e17 := zQ hV 17; have q0 := hS.1; have q1 := hS.2.1; have q2 := hS.2.2.1; have q3 := hS.2.2.2.1; go_simp; exact zO hK
              refine zS (fun w' hS hV K hK => ?_) ?_
              · have q0 := hS.1; have q1 := hS.2.1; have q2 := hS.2.2.1; have q3 := hS.2.2.2.1; go_simp; exact zO hK
              refine zS (fun w' hS hV K hK => ?_) ?_
              · have q0 := hS.1; have q1 := hS.2.1; have q2 := hS.2.2.1; have q3 := hS.2.2.2.1; go_simp; exact zO hK
              refine zS (fun w' hS hV K hK => ?_) ?_
              · have q0 := hS.1; have q1 := hS.2.1; have q2 := hS.2.2.1; have q3 := hS.2.2.2.1; go_simp; exact zO hK
              refine zS (fun w' hS hV K hK => ?_) ?_
              · have e20 := zQ hV 20; have e21 := zQ hV 21; have q0 := hS.1; have q1 := hS.2.1; have q2 := hS.2.2.1; have q3 := hS.2.2.2.1; go_simp; exact zO hK
              refine zS (fun w' hS hV K hK => ?_) ?_
              · have e22 := zQ hV 22; have q0 := hS.1; have q1 := hS.2.1; have q2 := hS.2.2.1; have q3 := hS.2.2.2.1; go_simp; exact zO hK
              refine zS (fun w' hS hV K hK => ?_) ?_
              · have q0 := hS.1; have q1 := hS.2.1; have q2 := hS.2.2.1; have q3 := hS.2.2.2.1; go_simp; exact zO hK
              refine zS (fun w' hS hV K hK => ?_) ?_
              · have e23 := zQ hV 23; have e24 := zQ hV 24; have q0 := hS.1; have q1 := hS.2.1; have q2 := hS.2.2.1; have q3 := hS.2.2.2.1; go_simp; exact zO hK
              refine zS (fun w' hS hV K hK => ?_) ?_
              · have e25 := zQ hV 25; have q0 := hS.1; have q1 := hS.2.1; have q2 := hS.2.2.1; have q3 := hS.2.2.2.1; go_simp; exact zO hK
              refine zS (fun w' hS hV K hK => ?_) ?_
              · have e19 := zQ hV 19; have e26 := zQ hV 26; have q0 := hS.1; have q1 := hS.2.1; have q2 := hS.2.2.1; have q3 := hS.2.2.2.1; go_simp; refine (inv_any p xe _ hp hp2 hx1.1 hx1.2).mono ?_; rintro e v1 ⟨rfl, rfl⟩; exact zO hK
              refine zS (fun w' hS hV K hK => ?_) ?_
              · have e18 := zQ hV 18; have e27 := zQ hV 27; have q0 := hS.1; have q1 := hS.2.1; have q2 := hS.2.2.1; have q3 := hS.2.2.2.1; go_simp; exact zO hK
              refine zS (fun w' hS hV K hK => ?_) ?_
              · have e2 := zQ hV 2; have e6 := zQ hV 6; have e10 := zQ hV 10; have e28 := zQ hV 28; have q0 := hS.1; have q1 := hS.2.1; have q2 := hS.2.2.1; have q3 := hS.2.2.2.1; go_simp; refine (plus_any p _ n _ _ n _ (-y * invF p xe) _ _ _ hp hp2 hn (Nat.le_refl _) (HRR.out.rd.below hS.2.2.2.2) HR1.out.2 (HRD.out.rd.below hS.2.2.2.2) HD1.out.2 HK.out.1 HK.out.2).mono ?_; rintro e v1 ⟨A2, c2, rfl, hM⟩; exact hK.out _ _ _ rfl rfl ⟨_, _, rfl, hM.after hS.2.2.2.2⟩ hM.b
              refine zS (fun w' hS hV K hK => ?_) ?_
              · have e0 := zQ hV 0; have e1 := zQ hV 1; have q0 := hS.1; have q1 := hS.2.1; have q2 := hS.2.2.1; have q3 := hS.2.2.2.1; go_simp; exact zO hK
              refine fun w' hS hV => ?_
              have e0 := zT hV 0
              have e1 := zT hV 1
              have e2 := zT hV 2
              have e3 := zT hV 3
              have e4 := zT hV 4
              have e5 := zT hV 5
              have e6 := zT hV 6
              have e7 := zT hV 7
              have e8 := zT hV 8
              have e9 := zT hV 9
              have e10 := zT hV 10
              have e11 := zT hV 11
              have e12 := zT hV 12
              have e13 := zT hV 13
              have e14 := zT hV 14
              have e15 := zT hV 15
              have e16 := zT hV 16
              have e17 := zT hV 17
              have e18 := zT hV 18
              have e19 := zT hV 19
              have e20 := zT hV 20
              have e21 := zT hV 21
              have e22 := zT hV 22
              have e23 := zT hV 23
              have e24 := zT hV 24
              have e25 := zT hV 25
              have e26 := zT hV 26
              have e27 := zT hV 27
              have e28 := zT hV 28
              obtain ⟨A29, c29, e29, h29⟩ := hV 29 (by decide)
              have e30 := zT hV 30
              simp only [e0, e1, e2, e3, e4, e5, e6, e7, e8, e9, e10, e11, e12, e13, e14, e15, e16, e17, e18, e19, e20, e21, e22, e23, e24, e25, e26, e27, e28, e29, e30]
              clear e0 e1 e2 e3 e4 e5 e6 e7 e8 e9 e10 e11 e12 e13 e14 e15 e16 e17 e18 e19 e20 e21 e22 e23 e24 e25 e26 e27 e28 e29 e30
              have hbn := hS.2.2.2.2
              have q0 := hS.1
              have ff := (HM4.out.below hbn).frozen_ r
              refine any_one (j := 31) (by kernel_rfl) (Eq.trans (by simp only [zA, zB, zC]; exact rfl) rfl) (fun K hK => ?_)
              go_simp
              refine hK.out _ _ (wpAny_done (by kernel_rfl) ?_ _)
              have hM5 := HM4.out.setRow h29 r
              have hM6 : MkII w (w'.setCell ⟨g, r, none⟩ (.slice A29 n c29)) (some ⟨g, 0, none⟩) n c1 (dClr p N i (r + 1)) := by
               rw [dClr_succ (by rw [HTS.out.2]; exact hlr) (by omega), HDR.out]
               exact hM5
              clear q0 ff hM5 h29 hbn hS hV
              go_wp2
              go_roundw
              case rel => exact ⟨r + 1, by omega, by omega, by go_num, hM6⟩
              case measure => simp [intOf]; omega
            · obtain rfl : r = n := by omega
              have HM4 := Lib.hid hM4
              clear hM4
              go_wp2
              go_roundw
              case rel => exact ⟨i + 1, o2 * xe % p, dClr p N i r, rfl, by go_num, by omega, HOX.out, HNXT, Lib.hid ⟨dClr_tab (by omega) HTS.out.1 _ _, by rw [dClr_len, HTS.out.2]⟩, HM4.out⟩
              case measure => simp [intOf]; omega
       · have hx0' : xe = 0 := by simpa using hz
         go_wp2
         go_round
         case rel => exact ⟨j + 1, by omega, by omega, by go_num, Lib.hid (by rw [← hj3.out, HPV.out, if_pos (by rw [HE.out]; exact hx0')])⟩
         case measure => simp [intOf]; omega
     · obtain rfl : j = n := by omega
       have HVP : Hid (pivOf L i i = j) := Lib.hid (by rw [← hj3.out, Nat.sub_self]; rfl)
       have HZ : Hid (detL p M = 0) := Lib.hid (by rw [HD.out, HSUC.out, detF_none (by rw [HVP.out, HT1.out.2])])
       go_wp2
       go_ret
       rw [HZ.out]
       exact ⟨rfl, HBB.out⟩
  · obtain rfl : i = n := by omega
    have HZ : Hid (detL p M = out) := Lib.hid (by rw [HD.out, Nat.sub_self]; rfl)
    go_wp2
    go_ret
    rw [HZ.out]
    exact ⟨rfl, HBB.out⟩
set_option maxHeartbeats 6400000 in
set_option maxRecDepth 8000 in
theorem isIsometry_sq (P : Int) (A : Option Addr) (n c : Nat) (sq : List Int) (D : Option Addr) (d : Nat) (M : List (List Int)) (w : World) (HP : isP P = true) (hn0 : 0 < n) (hn : n ≤ 6) (ha : Rd w A n (ints sq)) (hs : NumsL P sq) (hd : RdII w D n M) (hM : Tab P n M) :
    Calls Tryz.prog 120 #[.agg #[.int .i64 P, .slice A n c], .agg #[.int .i64 P, .slice A n c], .slice D n d] w fun e w' => e = .returned (.bool (isoB P sq M)) ∧ Below w.heap.size w w' := by
 have t7 : (P != P) = false := by simp
 have t6 : ((n : Int) != (n : Int)) = false := by simp
 have hB0 : Below w.heap.size w ((w.alloc (.cells #[.int .i64 P, .slice A n c] 26)).alloc (.cells #[.int .i64 P, .slice A n c] 26)) := (zG.alloc (Nat.le_refl _) _).alloc (by simp) _
 have k0 : Blk ((w.alloc (.cells #[.int .i64 P, .slice A n c] 26)).alloc (.cells #[.int .i64 P, .slice A n c] 26)) w.heap.size 26 #[.int .i64 P, .slice A n c] := (Blk.new _ _ _).alloc _
 have k1 : Blk ((w.alloc (.cells #[.int .i64 P, .slice A n c] 26)).alloc (.cells #[.int .i64 P, .slice A n c] 26)) (w.heap.size + 1) 26 #[.int .i64 P, .slice A n c] := Blk.newAt3 (by simp)
 obtain ⟨hp3, hp2⟩ := isP_ge HP
 have HTT : Hid (Tab P n (transL M) ∧ (transL M).length = n) := Lib.hid (trans_ok (by omega) hM (hd.len) hn0)
 have HM := Lib.hid hM
 have HSN := Lib.hid hs
 have HSL := Lib.hid ha.lenI
 have HFR : Hid (frB P sq.length M = true) := Lib.hid (frB_iff.2 ⟨hd.len.trans ha.lenI.symm, by rw [ha.lenI]; exact hM⟩)
 obtain ⟨R, hR⟩ : ∃ b, b = isoB P sq M := ⟨_, rfl⟩
 rw [← hR]
 have HR := Lib.hid hR
 obtain ⟨dd, hdd⟩ : ∃ x, x = detL P M := ⟨_, rfl⟩
 have HD := Lib.hid hdd
 have HIM := Lib.hid fun w' (h : Below w.heap.size w w') => isMatrix_ok P D n d M n w' (by omega) hp2 hn0 (by omega) hn0 (by omega) (hd.below h) hM
 have HDE := Lib.hid fun w' (h : Below w.heap.size w w') => determinant_any P D n d M w' HP hn0 (by omega) (hd.below h) hM
 rw [← hdd] at HDE
 have HTP := Lib.hid fun w' (h : Below w.heap.size w w') => transpose_any P D n d M n w' hn0 (by omega) (by omega) (hd.below h) hM
 have HA := Lib.hid ha
 obtain ⟨b, hb0⟩ : ∃ b, b = (dd == 0) := ⟨_, rfl⟩
 have hb1 : (dd == 0) = b := hb0.symm
 have HB : Hid ((b = true → R = false) ∧ (b = false → detL P M ≠ 0)) := Lib.hid ⟨fun h => by rw [HR.out]; exact is_det (by rw [← hdd]; rw [h] at hb0; simpa using hb0.symm), fun h => by rw [← hdd]; rw [h] at hb0; simpa using hb0.symm⟩
 obtain ⟨g, o, rfl, hx0, A0, c0, hc0, -, -⟩ := (hd.below hB0).at_ hn0
 rw [(hM M[0] (List.getElem_mem hx0)).1, Nat.add_zero] at hc0
 clear hM hd hs ha hR hdd hb0 HP hx0
 obtain ⟨q0, q1⟩ := k0.two
 obtain ⟨q2, q3⟩ := k1.two
 go_enter Tryz.func120, Tryz.ntmps120
 go_wp2
 refine wp_obs 42 [[],[0],[],[2],[0,1,2,3],[0,1,2,3,4],[0,1,2,3,4,5],[0,1,2,3,4,5,6],[0,1,2,3,4,5],[0,1,2,3,4,5,8],[0,1,2,3,4,5,6,7,8,9],[0,1,2,3,4,5,6,7,8,9,10],[0,1,2,3,4,5,6,7,8,9,10,11],[0,1,2,3,4,5,6,7,8,9,10,11,12],[0,1,2,3,4,5,6,7,8,9,10,11,12,13],[0,1,2,3,4,5,6,7,8,9,10,11,12],[0,1,2,3,4,5,6,7,8,9,10,11,12,13,14,15],[0,1,2,3,4,5,6,7,8,9,10,11,12,13,14,15,16],[0,1,2,3,4,5,6,7,8,9,10,11,12,13,14,15,16,17],[0,1,2,3,4,5,6,7,8,9,10,11,12,13,14,15,16,17,18],[0,1,2,3,4,5,6,7,8,9,10,11,12,13,14,15,16,17,18,19],[0,1,2,3,4,5,6,7,8,9,10,11,12,13,14,15,16,17,18,19,20],[0,1,2,3,4,5,6,7,8,9,10,11,12,13,14,15,16,17,18,19],[0,1,2,3,4,5,6,7,8,9,10,11,12,13,14,15,16,17,18,19,22],[0,1,2,3,4,5,6,7,8,9,10,11,12,13,14,15,16,17,18,19,20,21,22,23],[0,1,2,3,4,5,6,7,8,9,10,11,12,13,14,15,16,17,18,19,20,21,22,23,24],[0,1,2,3,4,5,6,7,8,9,10,11,12,13,14,15,16,17,18,19,20,21,22,23,24,25],[0,1,2,3,4,5,6,7,8,9,10,11,12,13,14,15,16,17,18,19,20,21,22,23,24,25,26],[0,1,2,3,4,5,6,7,8,9,10,11,12,13,14,15,16,17,18,19,20,21,22,23,24,25,26,27],[0,1,2,3,4,5,6,7,8,9,10,11,12,13,14,15,16,17,18,19,20,21,22,23,24,25,26,27,28],[0,1,2,3,4,5,6,7,8,9,10,11,12,13,14,15,16,17,18,19,20,21,22,23,24,25,26,27,28,29],[0,1,2,3,4,5,6,7,8,9,10,11,12,13,14,15,16,17,18,19,20,21,22,23,24,25,26],[0,1,2,3,4,5,6,7,8,9,10,11,12,13,14,15,16,17,18,19,20,21,22,23,24,25,26,31],[0,1,2,3,4,5,6,7,8,9,10,11,12,13,14,15,16,17,18,19,20,21,22,23,24,25,26,27,28,29,30,31,32],[0,1,2,3,4,5,6,7,8,9,10,11,12,13,14,15,16,17,18,19,20,21,22,23,24,25,26,27,28,29,30,31,32,33],[0,1,2,3,4,5,6,7,8,9,10,11,12,13,14,15,16,17,18,19,20,21,22,23,24,25,26,27,28,29,30,31,32,33,34],[0,1,2,3,4,5,6,7,8,9,10,11,12,13,14,15,16,17,18,19,20,21,22,23,24,25,26,27,28,29,30,31,32,33,34,35],[0,1,2,3,4,5,6,7,8,9,10,11,12,13,14,15,16,17,18,19,20,21,22,23,24,25,26,27,28,29,30,31,32,33,34,35,36],[0,1,2,3,4,5,6,7,8,9,10,11,12,13,14,15,16,17,18,19,20,21,22,23,24,25,26,27,28,29,30,31,32,33,34,35],[0,1,2,3,4,5,6,7,8,9,10,11,12,13,14,15,16,17,18,19,20,21,22,23,24,25,26,27,28,29,30,31,32,33,34,35,36,37,38],[0,1,2,3,4,5,6,7,8,9,10,11,12,13,14,15,16,17,18,19,20,21,22,23,24,25,26,27,28,29,30,31,32,33,34,35,36,37,38,39],[0,1,2,3,4,5,6,7,8,9,10,11,12,13,14,15,16,17,18,19,20,21,22,23,24,25,26,27,28,29,30,31,32,33,34,35,36,37,38,39,40]] [VIs (.pointer (some ⟨w.heap.size, 0, none⟩)), VIs (.int .i64 (P)), VIs (.pointer (some ⟨w.heap.size + 1, 0, none⟩)), VIs (.int .i64 (P)), VIs (.bool false), VIs (.bool false), VIs (.agg #[.int .i64 P, .slice A n c]), VIs (.int .i64 (n)), VIs (.agg #[.int .i64 P, .slice A n c]), VIs (.int .i64 (n)), VIs (.bool false), VIs (.bool false), VIs (.bool false), VIs (.agg #[.int .i64 P, .slice A n c]), VIs (.int .i64 (P)), VIs (.slice (some ⟨g, o, none⟩) n d), VIs (.bool true), VIs (.bool false), VIs (.bool false), VIs (.bool false), VIs (.slice (some ⟨g, o, none⟩) n d), VIs (.int .i64 (n)), VIs (.agg #[.int .i64 P, .slice A n c]), VIs (.int .i64 (n)), VIs (.bool false), VIs (.bool false), VIs (.bool false), VIs (.slice (some ⟨g, o, none⟩) n d), VIs (.pointer (some ⟨g, o, none⟩)), VIs (.slice A0 n c0), VIs (.int .i64 (n)), VIs (.agg #[.int .i64 P, .slice A n c]), VIs (.int .i64 (n)), VIs (.bool false), VIs (.bool false), VIs (.bool false), VIs (.agg #[.int .i64 P, .slice A n c]), VIs (.int .i64 (P)), VIs (.slice (some ⟨g, o, none⟩) n d), VIs (.int .i64 (dd)), VIs (.bool b), VIs (.bool b)] (fun w' => w'.cell? ⟨g, o, none⟩ = some (.slice A0 n c0) ∧ Blk w' w.heap.size 26 #[.int .i64 P, .slice A n c] ∧ Blk w' (w.heap.size + 1) 26 #[.int .i64 P, .slice A n c] ∧ Below w.heap.size w w') (by kernel_rfl) (by kernel_rfl) (fun _ _ h hb => ⟨(hb.cell (World.block_lt_of_cell? _ _ h.1)).trans h.1, h.2.1.below hb h.2.1.lt, h.2.2.1.below hb h.2.2.1.lt, h.2.2.2.trans (hb.mono h.2.2.2.size)⟩) (⟨hc0, k0.drew, k1.drew, hB0.drew⟩) (fun x => ?_)
 refine zS (fun w' hS hV K hK => ?_) ?_
 · have q9 := hS.1; obtain ⟨q0, q1⟩ := hS.2.1.two; obtain ⟨q2, q3⟩ := hS.2.2.1.two; go_simp; exact zO hK
 refine zS (fun w' hS hV K hK => ?_) ?_
 · have e0 := zQ hV 0; have q9 := hS.1; obtain ⟨q0, q1⟩ := hS.2.1.two; obtain ⟨q2, q3⟩ := hS.2.2.1.two; go_simp; exact zO hK
 refine zS (fun w' hS hV K hK => ?_) ?_
 · have q9 := hS.1; obtain ⟨q0, q1⟩ := hS.2.1.two; obtain ⟨q2, q3⟩ := hS.2.2.1.two; go_simp; exact zO hK
 refine zS (fun w' hS hV K hK => ?_) ?_
 · have e2 := zQ hV 2; have q9 := hS.1; obtain ⟨q0, q1⟩ := hS.2.1.two; obtain ⟨q2, q3⟩ := hS.2.2.1.two; go_simp; exact zO hK
 refine zS (fun w' hS hV K hK => ?_) ?_
 · have e1 := zQ hV 1; have e3 := zQ hV 3; have q9 := hS.1; obtain ⟨q0, q1⟩ := hS.2.1.two; obtain ⟨q2, q3⟩ := hS.2.2.1.two; go_simp; exact zO hK
 refine zS (fun w' hS hV K hK => ?_) ?_
 · have e4 := zQ hV 4; have q9 := hS.1; obtain ⟨q0, q1⟩ := hS.2.1.two; obtain ⟨q2, q3⟩ := hS.2.2.1.two; go_simp; exact zO hK
 refine zS (fun w' hS hV K hK => ?_) ?_
 · have e5 := zQ hV 5; have q9 := hS.1; obtain ⟨q0, q1⟩ := hS.2.1.two; obtain ⟨q2, q3⟩ := hS.2.2.1.two; go_simp; exact zO hK
 refine zS (fun w' hS hV K hK => ?_) ?_
 · have e5 := zQ hV 5; have e6 := zQ hV 6; have q9 := hS.1; obtain ⟨q0, q1⟩ := hS.2.1.two; obtain ⟨q2, q3⟩ := hS.2.2.1.two; go_simp; refine (dim_any _ _ _ _ _).mono ?_; rintro e v1 ⟨rfl, hb⟩; exact hK.out _ _ _ rfl rfl rfl hb
 refine zS (fun w' hS hV K hK => ?_) ?_
 · have e5 := zQ hV 5; have q9 := hS.1; obtain ⟨q0, q1⟩ := hS.2.1.two; obtain ⟨q2, q3⟩ := hS.2.2.1.two; go_simp; exact zO hK
 refine zS (fun w' hS hV K hK => ?_) ?_
 · have e5 := zQ hV 5; have e8 := zQ hV 8; have q9 := hS.1; obtain ⟨q0, q1⟩ := hS.2.1.two; obtain ⟨q2, q3⟩ := hS.2.2.1.two; go_simp; refine (dim_any _ _ _ _ _).mono ?_; rintro e v1 ⟨rfl, hb⟩; exact hK.out _ _ _ rfl rfl rfl hb
 refine zS (fun w' hS hV K hK => ?_) ?_
 · have e5 := zQ hV 5; have e7 := zQ hV 7; have e9 := zQ hV 9; have q9 := hS.1; obtain ⟨q0, q1⟩ := hS.2.1.two; obtain ⟨q2, q3⟩ := hS.2.2.1.two; go_simp; exact zO hK
 refine zS (fun w' hS hV K hK => ?_) ?_
 · have e5 := zQ hV 5; have e10 := zQ hV 10; have q9 := hS.1; obtain ⟨q0, q1⟩ := hS.2.1.two; obtain ⟨q2, q3⟩ := hS.2.2.1.two; go_simp; exact zO hK
 refine zS (fun w' hS hV K hK => ?_) ?_
 · have e11 := zQ hV 11; have q9 := hS.1; obtain ⟨q0, q1⟩ := hS.2.1.two; obtain ⟨q2, q3⟩ := hS.2.2.1.two; go_simp; exact zO hK
 refine zS (fun w' hS hV K hK => ?_) ?_
 · have e12 := zQ hV 12; have q9 := hS.1; obtain ⟨q0, q1⟩ := hS.2.1.two; obtain ⟨q2, q3⟩ := hS.2.2.1.two; go_simp; exact zO hK
 refine zS (fun w' hS hV K hK => ?_) ?_
 · have e12 := zQ hV 12; have e13 := zQ hV 13; have q9 := hS.1; obtain ⟨q0, q1⟩ := hS.2.1.two; obtain ⟨q2, q3⟩ := hS.2.2.1.two; go_simp; refine (field_any _ _ _ _ _).mono ?_; rintro e v1 ⟨rfl, hb⟩; exact hK.out _ _ _ rfl rfl rfl hb
 refine zS (fun w' hS hV K hK => ?_) ?_
 · have e12 := zQ hV 12; have q9 := hS.1; obtain ⟨q0, q1⟩ := hS.2.1.two; obtain ⟨q2, q3⟩ := hS.2.2.1.two; go_simp; exact zO hK
 refine zS (fun w' hS hV K hK => ?_) ?_
 · have e12 := zQ hV 12; have e14 := zQ hV 14; have e15 := zQ hV 15; have q9 := hS.1; obtain ⟨q0, q1⟩ := hS.2.1.two; obtain ⟨q2, q3⟩ := hS.2.2.1.two; go_simp; refine (HIM.out _ hS.2.2.2).mono ?_; rintro e v1 ⟨rfl, rfl⟩; exact zO hK
 refine zS (fun w' hS hV K hK => ?_) ?_
 · have e12 := zQ hV 12; have e16 := zQ hV 16; have q9 := hS.1; obtain ⟨q0, q1⟩ := hS.2.1.two; obtain ⟨q2, q3⟩ := hS.2.2.1.two; go_simp; exact zO hK
 refine zS (fun w' hS hV K hK => ?_) ?_
 · have e12 := zQ hV 12; have e17 := zQ hV 17; have q9 := hS.1; obtain ⟨q0, q1⟩ := hS.2.1.two; obtain ⟨q2, q3⟩ := hS.2.2.1.two; go_simp; exact zO hK
 refine zS (fun w' hS hV K hK => ?_) ?_
 · have e18 := zQ hV 18; have q9 := hS.1; obtain ⟨q0, q1⟩ := hS.2.1.two; obtain ⟨q2, q3⟩ := hS.2.2.1.two; go_simp; exact zO hK
 refine zS (fun w' hS hV K hK => ?_) ?_
 · have e19 := zQ hV 19; have q9 := hS.1; obtain ⟨q0, q1⟩ := hS.2.1.two; obtain ⟨q2, q3⟩ := hS.2.2.1.two; go_simp; exact zO hK
 refine zS (fun w' hS hV K hK => ?_) ?_
 · have e19 := zQ hV 19; have e20 := zQ hV 20; have q9 := hS.1; obtain ⟨q0, q1⟩ := hS.2.1.two; obtain ⟨q2, q3⟩ := hS.2.2.1.two; go_simp; exact zO hK
 refine zS (fun w' hS hV K hK => ?_) ?_
 · have e19 := zQ hV 19; have q9 := hS.1; obtain ⟨q0, q1⟩ := hS.2.1.two; obtain ⟨q2, q3⟩ := hS.2.2.1.two; go_simp; exact zO hK
 refine zS (fun w' hS hV K hK => ?_) ?_
 · have e19 := zQ hV 19; have e22 := zQ hV 22; have q9 := hS.1; obtain ⟨q0, q1⟩ := hS.2.1.two; obtain ⟨q2, q3⟩ := hS.2.2.1.two; go_simp; refine (dim_any _ _ _ _ _).mono ?_; rintro e v1 ⟨rfl, hb⟩; exact hK.out _ _ _ rfl rfl rfl hb
 refine zS (fun w' hS hV K hK => ?_) ?_
 · have e19 := zQ hV 19; have e21 := zQ hV 21; have e23 := zQ hV 23; have q9 := hS.1; obtain ⟨q0, q1⟩ := hS.2.1.two; obtain ⟨q2, q3⟩ := hS.2.2.1.two; go_simp; exact zO hK
 refine zS (fun w' hS hV K hK => ?_) ?_
 · have e19 := zQ hV 19; have e24 := zQ hV 24; have q9 := hS.1; obtain ⟨q0, q1⟩ := hS.2.1.two; obtain ⟨q2, q3⟩ := hS.2.2.1.two; go_simp; exact zO hK
 refine zS (fun w' hS hV K hK => ?_) ?_
 · have e25 := zQ hV 25; have q9 := hS.1; obtain ⟨q0, q1⟩ := hS.2.1.two; obtain ⟨q2, q3⟩ := hS.2.2.1.two; go_simp; exact zO hK
 refine zS (fun w' hS hV K hK => ?_) ?_
 · have e26 := zQ hV 26; have q9 := hS.1; obtain ⟨q0, q1⟩ := hS.2.1.two; obtain ⟨q2, q3⟩ := hS.2.2.1.two; go_simp; exact zO hK
 refine zS (fun w' hS hV K hK => ?_) ?_
 · have e26 := zQ hV 26; have e27 := zQ hV 27; have q9 := hS.1; obtain ⟨q0, q1⟩ := hS.2.1.two; obtain ⟨q2, q3⟩ := hS.2.2.1.two; go_simp; exact zO hK
 refine zS (fun w' hS hV K hK => ?_) ?_
 · have e26 := zQ hV 26; have e28 := zQ hV 28; have q9 := hS.1; obtain ⟨q0, q1⟩ := hS.2.1.two; obtain ⟨q2, q3⟩ := hS.2.2.1.two; go_simp; exact zO hK
 refine zS (fun w' hS hV K hK => ?_) ?_
 · have e26 := zQ hV 26; have e29 := zQ hV 29; have q9 := hS.1; obtain ⟨q0, q1⟩ := hS.2.1.two; obtain ⟨q2, q3⟩ := hS.2.2.1.two; go_simp; exact zO hK
 refine zS (fun w' hS hV K hK => ?_) ?_
 · have e26 := zQ hV 26; have q9 := hS.1; obtain ⟨q0, q1⟩ := hS.2.1.two; obtain ⟨q2, q3⟩ := hS.2.2.1.two; go_simp; exact zO hK
 refine zS (fun w' hS hV K hK => ?_) ?_
 · have e26 := zQ hV 26; have e31 := zQ hV 31; have q9 := hS.1; obtain ⟨q0, q1⟩ := hS.2.1.two; obtain ⟨q2, q3⟩ := hS.2.2.1.two; go_simp; refine (dim_any _ _ _ _ _).mono ?_; rintro e v1 ⟨rfl, hb⟩; exact hK.out _ _ _ rfl rfl rfl hb
 refine zS (fun w' hS hV K hK => ?_) ?_
 · have e26 := zQ hV 26; have e30 := zQ hV 30; have e32 := zQ hV 32; have q9 := hS.1; obtain ⟨q0, q1⟩ := hS.2.1.two; obtain ⟨q2, q3⟩ := hS.2.2.1.two; go_simp; exact zO hK
 refine zS (fun w' hS hV K hK => ?_) ?_
 · have e26 := zQ hV 26; have e33 := zQ hV 33; have q9 := hS.1; obtain ⟨q0, q1⟩ := hS.2.1.two; obtain ⟨q2, q3⟩ := hS.2.2.1.two; go_simp; exact zO hK
 refine zS (fun w' hS hV K hK => ?_) ?_
 · have e34 := zQ hV 34; have q9 := hS.1; obtain ⟨q0, q1⟩ := hS.2.1.two; obtain ⟨q2, q3⟩ := hS.2.2.1.two; go_simp; exact zO hK
 refine zS (fun w' hS hV K hK => ?_) ?_
 · have e35 := zQ hV 35; have q9 := hS.1; obtain ⟨q0, q1⟩ := hS.2.1.two; obtain ⟨q2, q3⟩ := hS.2.2.1.two; go_simp; exact zO hK
 refine zS (fun w' hS hV K hK => ?_) ?_
 · have e35 := zQ hV 35; have e36 := zQ hV 36; have q9 := hS.1; obtain ⟨q0, q1⟩ := hS.2.1.two; obtain ⟨q2, q3⟩ := hS.2.2.1.two; go_simp; refine (field_any _ _ _ _ _).mono ?_; rintro e v1 ⟨rfl, hb⟩; exact hK.out _ _ _ rfl rfl rfl hb
 refine zS (fun w' hS hV K hK => ?_) ?_
 · have e35 := zQ hV 35; have q9 := hS.1; obtain ⟨q0, q1⟩ := hS.2.1.two; obtain ⟨q2, q3⟩ := hS.2.2.1.two; go_simp; exact zO hK
 refine zS (fun w' hS hV K hK => ?_) ?_
 · have e35 := zQ hV 35; have e37 := zQ hV 37; have e38 := zQ hV 38; have q9 := hS.1; obtain ⟨q0, q1⟩ := hS.2.1.two; obtain ⟨q2, q3⟩ := hS.2.2.1.two; go_simp; refine (HDE.out _ hS.2.2.2).mono ?_; rintro e v1 ⟨rfl, hb⟩; exact hK.out _ _ _ rfl rfl rfl hb
 refine zS (fun w' hS hV K hK => ?_) ?_
 · have e35 := zQ hV 35; have e39 := zQ hV 39; have q9 := hS.1; obtain ⟨q0, q1⟩ := hS.2.1.two; obtain ⟨q2, q3⟩ := hS.2.2.1.two; go_simp; exact zO hK
 refine zS (fun w' hS hV K hK => ?_) ?_
 · have e35 := zQ hV 35; have e40 := zQ hV 40; have q9 := hS.1; obtain ⟨q0, q1⟩ := hS.2.1.two; obtain ⟨q2, q3⟩ := hS.2.2.1.two; go_simp; exact zO hK
 refine fun w' hS hV => ?_
 have e0 := zT hV 0
 have e1 := zT hV 1
 have e2 := zT hV 2
 have e3 := zT hV 3
 have e4 := zT hV 4
 have e5 := zT hV 5
 have e6 := zT hV 6
 have e7 := zT hV 7
 have e8 := zT hV 8
 have e9 := zT hV 9
 have e10 := zT hV 10
 have e11 := zT hV 11
 have e12 := zT hV 12
 have e13 := zT hV 13
 have e14 := zT hV 14
 have e15 := zT hV 15
 have e16 := zT hV 16
 have e17 := zT hV 17
 have e18 := zT hV 18
 have e19 := zT hV 19
 have e20 := zT hV 20
 have e21 := zT hV 21
 have e22 := zT hV 22
 have e23 := zT hV 23
 have e24 := zT hV 24
 have e25 := zT hV 25
 have e26 := zT hV 26
 have e27 := zT hV 27
 have e28 := zT hV 28
 have e29 := zT hV 29
 have e30 := zT hV 30
 have e31 := zT hV 31
 have e32 := zT hV 32
 have e33 := zT hV 33
 have e34 := zT hV 34
 have e35 := zT hV 35
 have e36 := zT hV 36
 have e37 := zT hV 37
 have e38 := zT hV 38
 have e39 := zT hV 39
 have e40 := zT hV 40
 have e41 := zT hV 41
 simp only [e0, e1, e2, e3, e4, e5, e6, e7, e8, e9, e10, e11, e12, e13, e14, e15, e16, e17, e18, e19, e20, e21, e22, e23, e24, e25, e26, e27, e28, e29, e30, e31, e32, e33, e34, e35, e36, e37, e38, e39, e40, e41]
 clear e0 e1 e2 e3 e4 e5 e6 e7 e8 e9 e10 e11 e12 e13 e14 e15 e16 e17 e18 e19 e20 e21 e22 e23 e24 e25 e26 e27 e28 e29 e30 e31 e32 e33 e34 e35 e36 e37 e38 e39 e40 e41
 refine wpAny_done (by kernel_rfl) ?_ _
 obtain ⟨w3, rfl⟩ : ∃ W, W = w' := ⟨_, rfl⟩
 have k3 := hS.2.1
 have l3 := hS.2.2.1
 have hB3 := hS.2.2.2
 clear hS q0 q1 q2 q3 k0 k1 hB0 hc0 hb1
 cases b
 · have HDN := Lib.hid (HB.out.2 rfl)
   clear HB
   go_wp2_with fail
   refine (HTP.out w3 hB3).mono ?_
   rintro e w4 ⟨A4, c4, rfl, hM4⟩
   have k4 := k3.below hM4.b k3.lt
   have l4 := l3.below hM4.b l3.lt
   have hB4 := hB3.trans (hM4.b.mono hB3.size)
   have C4 := hM4.rd
   clear k3 l3 hB3 hM4
   go_wp2
   go_loopw [59] (fun i wr => ∃ j : Nat, j ≤ n ∧ i = .int .i64 j ∧ Below w4.heap.size w4 wr ∧ Hid (isTo P sq M (fun _ => sq.length) j 0)) (fun i _ => n - (intOf i).toNat)
   case atStart => exact ⟨0, by omega, rfl, Below.refl _ _, Lib.hid ⟨fun a ha => absurd ha (by omega), fun b hb => absurd hb (by omega)⟩⟩
   case round =>
    obtain ⟨i, hi, rfl, hbr, HI⟩ := hrel
    by_cases hlt : i < n
    · obtain ⟨gc, oc, rfl, hxi, Ai, ci, hci4, hri, -⟩ := C4.at_ hlt
      have hci := (hbr.cell (World.block_lt_of_cell? _ _ hci4)).trans hci4
      clear hci4
      have ht := HTT.out.1 _ (List.getElem_mem hxi)
      have li := ht.1
      rw [li] at hci hri
      have HNI := Lib.hid ht.2
      have HGI : Hid ((transL M).getD i [] = (transL M)[i]) := Lib.hid (getD_of_lt [] hxi)
      obtain ⟨vi, hvi⟩ : ∃ v, v = (transL M)[i] := ⟨_, rfl⟩
      rw [← hvi] at hri HNI HGI
      clear hvi ht li hxi
      obtain ⟨si, hsi⟩ : ∃ s, s = sq.getD i 0 := ⟨_, rfl⟩
      have HSI := Lib.hid hsi
      obtain ⟨ga, oa, eA, hxa, hca⟩ := HA.out.int hlt
      have hsv : sq[i] = si := by rw [hsi, getD_of_lt 0 hxa]
      rw [hsv] at hca
      have EA := Lib.hid eA
      clear hsi hsv hxa eA
      go_wp2
      go_loopw [66] (fun k wr => ∃ j : Nat, j ≤ n ∧ k = .int .i64 j ∧ Below w4.heap.size w4 wr ∧ Hid (isTo P sq M (fun _ => sq.length) i j)) (fun i _ => n - (intOf i).toNat)
      case atStart => exact ⟨0, by omega, rfl, hbr, HI⟩
      case round =>
       obtain ⟨k, hk, rfl, hb2, HK⟩ := hrel
       clear hbr hci
       by_cases hkt : k < n
       · obtain ⟨gc', oc', e9, hxk, Ak, ck, hck, hrk, -⟩ := (C4.below hb2).at_ hkt
         cases e9
         have ht := HTT.out.1 _ (List.getElem_mem hxk)
         have lk := ht.1
         rw [lk] at hck hrk
         have HNK := Lib.hid ht.2
         have HGK : Hid ((transL M).getD k [] = (transL M)[k]) := Lib.hid (getD_of_lt [] hxk)
         obtain ⟨vk, hvk⟩ : ∃ v, v = (transL M)[k] := ⟨_, rfl⟩
         rw [← hvk] at hrk HNK HGK
         clear hvk ht lk hxk
         have hB5 := hB4.trans (hb2.mono hB4.size)
         have k5 := k4.below hb2 k4.lt
         have l5 := l4.below hb2 l4.lt
         have hpr := pair_any P A n c sq Ai ci vi Ak ck vk wr (by omega) hp2 hn (HA.out.below hB5) HSN.out (hri.below hb2) HNI.out hrk HNK.out
         have HZZ : Hid (pairL P sq vi vk = colP P sq M i k) := Lib.hid (by unfold colP; rw [HGI.out, HGK.out])
         obtain ⟨z, hz⟩ : ∃ z, z = pairL P sq vi vk := ⟨_, rfl⟩
         rw [← hz] at hpr HZZ
         have hca5 : wr.cell? ⟨ga, oa + i, none⟩ = some (.int .i64 si) := (hB5.cell (World.block_lt_of_cell? _ _ hca)).trans hca
         have eA := EA.out
         subst eA
         clear hz hrk
         obtain ⟨q0, q1⟩ := k5.two
         obtain ⟨q2, q3⟩ := l5.two
         by_cases hik : i = k
         · subst hik
           obtain ⟨t, ht0⟩ : ∃ t, t = (z != si) := ⟨_, rfl⟩
           have ht1 : (z != si) = t := ht0.symm
           have HZ : Hid ((t = true → R = false) ∧ (t = false → isTo P sq M (fun _ => sq.length) i (i + 1))) := Lib.hid ⟨fun h => by rw [HR.out]; exact is_stop (by rw [HSL.out]; exact hlt) (by rw [HSL.out]; exact hlt) (by rw [← HZZ.out]; unfold colW; rw [if_pos rfl, ← HSI.out]; rw [h] at ht0; simpa using ht0.symm), fun h => HK.out.next (by rw [← HZZ.out]; unfold colW; rw [if_pos rfl, ← HSI.out]; rw [h] at ht0; simpa using ht0.symm)⟩
           have t9 : ((i : Int) == (i : Int)) = true := by simp
           clear ht0
           go_wp2_with fail
           refine hpr.mono ?_
           rintro e w6 ⟨rfl, hb6⟩
           clear hpr q0 q1 q2 q3
           cases t
           · have HZ1 := Lib.hid (HZ.out.2 rfl)
             clear HZ
             go_wp2
             go_roundw
             case rel => exact ⟨i + 1, by omega, by go_num, hb2.trans (hb6.mono hb2.size), HZ1⟩
             case measure => simp [intOf]; omega
           · obtain rfl : R = false := HZ.out.1 rfl
             clear HZ
             go_wp2
             go_ret
             exact ⟨rfl, hB5.trans (hb6.mono hB5.size)⟩
         · obtain ⟨t, ht0⟩ : ∃ t, t = (z != 0) := ⟨_, rfl⟩
           have ht1 : (z != 0) = t := ht0.symm
           have HZ : Hid ((t = true → R = false) ∧ (t = false → isTo P sq M (fun _ => sq.length) i (k + 1))) := Lib.hid ⟨fun h => by rw [HR.out]; exact is_stop (by rw [HSL.out]; exact hlt) (by rw [HSL.out]; exact hkt) (by rw [← HZZ.out]; unfold colW; rw [if_neg hik]; rw [h] at ht0; simpa using ht0.symm), fun h => HK.out.next (by rw [← HZZ.out]; unfold colW; rw [if_neg hik]; rw [h] at ht0; simpa using ht0.symm)⟩
           have t9 : ((i : Int) == (k : Int)) = false := by rw [beq_eq_false_iff_ne]; omega
           clear ht0 hik
           go_wp2_with fail
           refine hpr.mono ?_
           rintro e w6 ⟨rfl, hb6⟩
           clear hpr q0 q1 q2 q3
           cases t
           · have HZ1 := Lib.hid (HZ.out.2 rfl)
             clear HZ
             go_wp2
             go_roundw
             case rel => exact ⟨k + 1, by omega, by go_num, hb2.trans (hb6.mono hb2.size), HZ1⟩
             case measure => simp [intOf]; omega
           · obtain rfl : R = false := HZ.out.1 rfl
             clear HZ
             go_wp2
             go_ret
             exact ⟨rfl, hB5.trans (hb6.mono hB5.size)⟩
       · have HK1 : Hid (isTo P sq M (fun _ => sq.length) (i + 1) 0) := Lib.hid (HK.out.row (by rw [HSL.out]; omega))
         go_wp2
         go_roundw
         case rel => exact ⟨i + 1, by omega, by go_num, hb2, HK1⟩
         case measure => simp [intOf]; omega
    · obtain rfl : R = true := by
       rw [HR.out]
       have h := HI.out
       rw [show i = sq.length by rw [HSL.out]; omega] at h
       exact h.full HFR.out HDN.out
      go_wp2
      go_ret
      exact ⟨rfl, hB4.trans (hbr.mono hB4.size)⟩
 · obtain rfl : R = false := HB.out.1 rfl
   clear HB
   go_wp2
   go_ret
   exact ⟨rfl, hB3⟩
set_option maxHeartbeats 3200000 in
set_option maxRecDepth 8000 in
theorem isIsometry_0 (P : Int) (A : Option Addr) (n c : Nat) (sq : List Int) (D : Option Addr) (r d : Nat) (M : List (List Int)) (m : Nat) (w : World) (hp0 : 0 < P) (hp1 : P ≤ 13) (hr0 : 0 < r) (hr : r ≤ 16) (hm1 : 1 ≤ m) (hm : m ≤ 16) (hd : RdII w D r M) (hM : Rect m M) (hb : (M.all fun r => nums P r) = false) :
    Calls Tryz.prog 120 #[.agg #[.int .i64 P, .slice A n c], .agg #[.int .i64 P, .slice A n c], .slice D r d] w fun e w' => e = .returned (.bool false) ∧ Below w.heap.size w w' := by
 have t7 : (P != P) = false := by simp
 have t6 : ((n : Int) != (n : Int)) = false := by simp
 have hB0 : Below w.heap.size w ((w.alloc (.cells #[.int .i64 P, .slice A n c] 26)).alloc (.cells #[.int .i64 P, .slice A n c] 26)) := (zG.alloc (Nat.le_refl _) _).alloc (by simp) _
 have k0 : Blk ((w.alloc (.cells #[.int .i64 P, .slice A n c] 26)).alloc (.cells #[.int .i64 P, .slice A n c] 26)) w.heap.size 26 #[.int .i64 P, .slice A n c] := (Blk.new _ _ _).alloc _
 have k1 : Blk ((w.alloc (.cells #[.int .i64 P, .slice A n c] 26)).alloc (.cells #[.int .i64 P, .slice A n c] 26)) (w.heap.size + 1) 26 #[.int .i64 P, .slice A n c] := Blk.newAt3 (by simp)
 have HIM := Lib.hid fun w' (h : Below w.heap.size w w') => isMatrix_any P D r d M m w' hp0 hp1 hr0 hr hm1 hm (hd.below h) hM
 rw [hb] at HIM
 obtain ⟨g, o, rfl, hx0, A0, c0, hc0, -, -⟩ := (hd.below hB0).at_ hr0
 rw [hM M[0] (List.getElem_mem hx0), Nat.add_zero] at hc0
 clear hM hd hb
 obtain ⟨q0, q1⟩ := k0.two
 obtain ⟨q2, q3⟩ := k1.two
 go_enter Tryz.func120, Tryz.ntmps120
 go_wp2
 refine wp_obs 42 [[],[0],[],[2],[0,1,2,3],[0,1,2,3,4],[0,1,2,3,4,5],[0,1,2,3,4,5,6],[0,1,2,3,4,5],[0,1,2,3,4,5,8],[0,1,2,3,4,5,6,7,8,9],[0,1,2,3,4,5,6,7,8,9,10],[0,1,2,3,4,5,6,7,8,9,10,11],[0,1,2,3,4,5,6,7,8,9,10,11,12],[0,1,2,3,4,5,6,7,8,9,10,11,12,13],[0,1,2,3,4,5,6,7,8,9,10,11,12],[0,1,2,3,4,5,6,7,8,9,10,11,12,13,14,15],[0,1,2,3,4,5,6,7,8,9,10,11,12,13,14,15,16],[0,1,2,3,4,5,6,7,8,9,10,11,12,13,14,15,16,17],[0,1,2,3,4,5,6,7,8,9,10,11,12,13,14,15,16,17,18],[0,1,2,3,4,5,6,7,8,9,10,11,12,13,14,15,16,17,18,19],[0,1,2,3,4,5,6,7,8,9,10,11,12,13,14,15,16,17,18,19,20],[0,1,2,3,4,5,6,7,8,9,10,11,12,13,14,15,16,17,18,19],[0,1,2,3,4,5,6,7,8,9,10,11,12,13,14,15,16,17,18,19,22],[0,1,2,3,4,5,6,7,8,9,10,11,12,13,14,15,16,17,18,19,20,21,22,23],[0,1,2,3,4,5,6,7,8,9,10,11,12,13,14,15,16,17,18,19,20,21,22,23,24],[0,1,2,3,4,5,6,7,8,9,10,11,12,13,14,15,16,17,18,19,20,21,22,23,24,25],[0,1,2,3,4,5,6,7,8,9,10,11,12,13,14,15,16,17,18,19,20,21,22,23,24,25,26],[0,1,2,3,4,5,6,7,8,9,10,11,12,13,14,15,16,17,18,19,20,21,22,23,24,25,26,27],[0,1,2,3,4,5,6,7,8,9,10,11,12,13,14,15,16,17,18,19,20,21,22,23,24,25,26,27,28],[0,1,2,3,4,5,6,7,8,9,10,11,12,13,14,15,16,17,18,19,20,21,22,23,24,25,26,27,28,29],[0,1,2,3,4,5,6,7,8,9,10,11,12,13,14,15,16,17,18,19,20,21,22,23,24,25,26],[0,1,2,3,4,5,6,7,8,9,10,11,12,13,14,15,16,17,18,19,20,21,22,23,24,25,26,31],[0,1,2,3,4,5,6,7,8,9,10,11,12,13,14,15,16,17,18,19,20,21,22,23,24,25,26,27,28,29,30,31,32],[0,1,2,3,4,5,6,7,8,9,10,11,12,13,14,15,16,17,18,19,20,21,22,23,24,25,26,27,28,29,30,31,32,33],[0,1,2,3,4,5,6,7,8,9,10,11,12,13,14,15,16,17,18,19,20,21,22,23,24,25,26,27,28,29,30,31,32,33,34],[0,1,2,3,4,5,6,7,8,9,10,11,12,13,14,15,16,17,18,19,20,21,22,23,24,25,26,27,28,29,30,31,32,33,34,35],[0,1,2,3,4,5,6,7,8,9,10,11,12,13,14,15,16,17,18,19,20,21,22,23,24,25,26,27,28,29,30,31,32,33,34,35,36],[0,1,2,3,4,5,6,7,8,9,10,11,12,13,14,15,16,17,18,19,20,21,22,23,24,25,26,27,28,29,30,31,32,33,34,35],[0,1,2,3,4,5,6,7,8,9,10,11,12,13,14,15,16,17,18,19,20,21,22,23,24,25,26,27,28,29,30,31,32,33,34,35,36,37,38],[0,1,2,3,4,5,6,7,8,9,10,11,12,13,14,15,16,17,18,19,20,21,22,23,24,25,26,27,28,29,30,31,32,33,34,35,36,37,38,39],[0,1,2,3,4,5,6,7,8,9,10,11,12,13,14,15,16,17,18,19,20,21,22,23,24,25,26,27,28,29,30,31,32,33,34,35,36,37,38,39,40]] [VIs (.pointer (some ⟨w.heap.size, 0, none⟩)), VIs (.int .i64 (P)), VIs (.pointer (some ⟨w.heap.size + 1, 0, none⟩)), VIs (.int .i64 (P)), VIs (.bool false), VIs (.bool false), VIs (.agg #[.int .i64 P, .slice A n c]), VIs (.int .i64 (n)), VIs (.agg #[.int .i64 P, .slice A n c]), VIs (.int .i64 (n)), VIs (.bool false), VIs (.bool false), VIs (.bool false), VIs (.agg #[.int .i64 P, .slice A n c]), VIs (.int .i64 (P)), VIs (.slice (some ⟨g, o, none⟩) r d), VIs (.bool false), VIs (.bool true), VIs (.bool true), VIs (.bool true), VIs undef, VIs undef, VIs undef, VIs undef, VIs undef, VIs (.bool true), VIs (.bool true), VIs undef, VIs undef, VIs undef, VIs undef, VIs undef, VIs undef, VIs undef, VIs (.bool true), VIs (.bool true), VIs undef, VIs undef, VIs undef, VIs undef, VIs undef, VIs (.bool true)] (fun w' => w'.cell? ⟨g, o, none⟩ = some (.slice A0 m c0) ∧ Blk w' w.heap.size 26 #[.int .i64 P, .slice A n c] ∧ Blk w' (w.heap.size + 1) 26 #[.int .i64 P, .slice A n c] ∧ Below w.heap.size w w') (by kernel_rfl) (by kernel_rfl) (fun _ _ h hb => ⟨(hb.cell (World.block_lt_of_cell? _ _ h.1)).trans h.1, h.2.1.below hb h.2.1.lt, h.2.2.1.below hb h.2.2.1.lt, h.2.2.2.trans (hb.mono h.2.2.2.size)⟩) (⟨hc0, k0.drew, k1.drew, hB0.drew⟩) (fun x => ?_)
 refine zS (fun w' hS hV K hK => ?_) ?_
 · have q9 := hS.1; obtain ⟨q0, q1⟩ := hS.2.1.two; obtain ⟨q2, q3⟩ := hS.2.2.1.two; go_simp; exact zO hK
 refine zS (fun w' hS hV K hK => ?_) ?_
 · have e0 := zQ hV 0; have q9 := hS.1; obtain ⟨q0, q1⟩ := hS.2.1.two; obtain ⟨q2, q3⟩ := hS.2.2.1.two; go_simp; exact zO hK
 refine zS (fun w' hS hV K hK => ?_) ?_
 · have q9 := hS.1; obtain ⟨q0, q1⟩ := hS.2.1.two; obtain ⟨q2, q3⟩ := hS.2.2.1.two; go_simp; exact zO hK
 refine zS (fun w' hS hV K hK => ?_) ?_
 · have e2 := zQ hV 2; have q9 := hS.1; obtain ⟨q0, q1⟩ := hS.2.1.two; obtain ⟨q2, q3⟩ := hS.2.2.1.two; go_simp; exact zO hK
 refine zS (fun w' hS hV K hK => ?_) ?_
 · have e1 := zQ hV 1; have e3 := zQ hV 3; have q9 := hS.1; obtain ⟨q0, q1⟩ := hS.2.1.two; obtain ⟨q2, q3⟩ := hS.2.2.1.two; go_simp; exact zO hK
 refine zS (fun w' hS hV K hK => ?_) ?_
 · have e4 := zQ hV 4; have q9 := hS.1; obtain ⟨q0, q1⟩ := hS.2.1.two; obtain ⟨q2, q3⟩ := hS.2.2.1.two; go_simp; exact zO hK
 refine zS (fun w' hS hV K hK => ?_) ?_
 · have e5 := zQ hV 5; have q9 := hS.1; obtain ⟨q0, q1⟩ := hS.2.1.two; obtain ⟨q2, q3⟩ := hS.2.2.1.two; go_simp; exact zO hK
 refine zS (fun w' hS hV K hK => ?_) ?_
 · have e5 := zQ hV 5; have e6 := zQ hV 6; have q9 := hS.1; obtain ⟨q0, q1⟩ := hS.2.1.two; obtain ⟨q2, q3⟩ := hS.2.2.1.two; go_simp; refine (dim_any _ _ _ _ _).mono ?_; rintro e v1 ⟨rfl, hb⟩; exact hK.out _ _ _ rfl rfl rfl hb
 refine zS (fun w' hS hV K hK => ?_) ?_
 · have e5 := zQ hV 5; have q9 := hS.1; obtain ⟨q0, q1⟩ := hS.2.1.two; obtain ⟨q2, q3⟩ := hS.2.2.1.two; go_simp; exact zO hK
 refine zS (fun w' hS hV K hK => ?_) ?_
 · have e5 := zQ hV 5; have e8 := zQ hV 8; have q9 := hS.1; obtain ⟨q0, q1⟩ := hS.2.1.two; obtain ⟨q2, q3⟩ := hS.2.2.1.two; go_simp; refine (dim_any _ _ _ _ _).mono ?_; rintro e v1 ⟨rfl, hb⟩; exact hK.out _ _ _ rfl rfl rfl hb
 refine zS (fun w' hS hV K hK => ?_) ?_
 · have e5 := zQ hV 5; have e7 := zQ hV 7; have e9 := zQ hV 9; have q9 := hS.1; obtain ⟨q0, q1⟩ := hS.2.1.two; obtain ⟨q2, q3⟩ := hS.2.2.1.two; go_simp; exact zO hK
 refine zS (fun w' hS hV K hK => ?_) ?_
 · have e5 := zQ hV 5; have e10 := zQ hV 10; have q9 := hS.1; obtain ⟨q0, q1⟩ := hS.2.1.two; obtain ⟨q2, q3⟩ := hS.2.2.1.two; go_simp; exact zO hK
 refine zS (fun w' hS hV K hK => ?_) ?_
 · have e11 := zQ hV 11; have q9 := hS.1; obtain ⟨q0, q1⟩ := hS.2.1.two; obtain ⟨q2, q3⟩ := hS.2.2.1.two; go_simp; exact zO hK
 refine zS (fun w' hS hV K hK => ?_) ?_
 · have e12 := zQ hV 12; have q9 := hS.1; obtain ⟨q0, q1⟩ := hS.2.1.two; obtain ⟨q2, q3⟩ := hS.2.2.1.two; go_simp; exact zO hK
 refine zS (fun w' hS hV K hK => ?_) ?_
 · have e12 := zQ hV 12; have e13 := zQ hV 13; have q9 := hS.1; obtain ⟨q0, q1⟩ := hS.2.1.two; obtain ⟨q2, q3⟩ := hS.2.2.1.two; go_simp; refine (field_any _ _ _ _ _).mono ?_; rintro e v1 ⟨rfl, hb⟩; exact hK.out _ _ _ rfl rfl rfl hb
 refine zS (fun w' hS hV K hK => ?_) ?_
 · have e12 := zQ hV 12; have q9 := hS.1; obtain ⟨q0, q1⟩ := hS.2.1.two; obtain ⟨q2, q3⟩ := hS.2.2.1.two; go_simp; exact zO hK
 refine zS (fun w' hS hV K hK => ?_) ?_
 · have e12 := zQ hV 12; have e14 := zQ hV 14; have e15 := zQ hV 15; have q9 := hS.1; obtain ⟨q0, q1⟩ := hS.2.1.two; obtain ⟨q2, q3⟩ := hS.2.2.1.two; go_simp; refine (HIM.out _ hS.2.2.2).mono ?_; rintro e v1 ⟨rfl, rfl⟩; exact zO hK
 refine zS (fun w' hS hV K hK => ?_) ?_
 · have e12 := zQ hV 12; have e16 := zQ hV 16; have q9 := hS.1; obtain ⟨q0, q1⟩ := hS.2.1.two; obtain ⟨q2, q3⟩ := hS.2.2.1.two; go_simp; exact zO hK
 refine zS (fun w' hS hV K hK => ?_) ?_
 · have e12 := zQ hV 12; have e17 := zQ hV 17; have q9 := hS.1; obtain ⟨q0, q1⟩ := hS.2.1.two; obtain ⟨q2, q3⟩ := hS.2.2.1.two; go_simp; exact zO hK
 refine zS (fun w' hS hV K hK => ?_) ?_
 · have e18 := zQ hV 18; have q9 := hS.1; obtain ⟨q0, q1⟩ := hS.2.1.two; obtain ⟨q2, q3⟩ := hS.2.2.1.two; go_simp; exact zO hK
 refine zS (fun w' hS hV K hK => ?_) ?_
 · have e19 := zQ hV 19; have q9 := hS.1; obtain ⟨q0, q1⟩ := hS.2.1.two; obtain ⟨q2, q3⟩ := hS.2.2.1.two; go_simp; exact zO hK
 refine zS (fun w' hS hV K hK => ?_) ?_
 · have e19 := zQ hV 19; have e20 := zQ hV 20; have q9 := hS.1; obtain ⟨q0, q1⟩ := hS.2.1.two; obtain ⟨q2, q3⟩ := hS.2.2.1.two; go_simp; exact zO hK
 refine zS (fun w' hS hV K hK => ?_) ?_
 · have e19 := zQ hV 19; have q9 := hS.1; obtain ⟨q0, q1⟩ := hS.2.1.two; obtain ⟨q2, q3⟩ := hS.2.2.1.two; go_simp; exact zO hK
 refine zS (fun w' hS hV K hK => ?_) ?_
 · have e19 := zQ hV 19; have e22 := zQ hV 22; have q9 := hS.1; obtain ⟨q0, q1⟩ := hS.2.1.two; obtain ⟨q2, q3⟩ := hS.2.2.1.two; go_simp; exact zO hK
 refine zS (fun w' hS hV K hK => ?_) ?_
 · have e19 := zQ hV 19; have e21 := zQ hV 21; have e23 := zQ hV 23; have q9 := hS.1; obtain ⟨q0, q1⟩ := hS.2.1.two; obtain ⟨q2, q3⟩ := hS.2.2.1.two; go_simp; exact zO hK
 refine zS (fun w' hS hV K hK => ?_) ?_
 · have e19 := zQ hV 19; have e24 := zQ hV 24; have q9 := hS.1; obtain ⟨q0, q1⟩ := hS.2.1.two; obtain ⟨q2, q3⟩ := hS.2.2.1.two; go_simp; exact zO hK
 refine zS (fun w' hS hV K hK => ?_) ?_
 · have e25 := zQ hV 25; have q9 := hS.1; obtain ⟨q0, q1⟩ := hS.2.1.two; obtain ⟨q2, q3⟩ := hS.2.2.1.two; go_simp; exact zO hK
 refine zS (fun w' hS hV K hK => ?_) ?_
 · have e26 := zQ hV 26; have q9 := hS.1; obtain ⟨q0, q1⟩ := hS.2.1.two; obtain ⟨q2, q3⟩ := hS.2.2.1.two; go_simp; exact zO hK
 refine zS (fun w' hS hV K hK => ?_) ?_
 · have e26 := zQ hV 26; have e27 := zQ hV 27; have q9 := hS.1; obtain ⟨q0, q1⟩ := hS.2.1.two; obtain ⟨q2, q3⟩ := hS.2.2.1.two; go_simp; exact zO hK
 refine zS (fun w' hS hV K hK => ?_) ?_
 · have e26 := zQ hV 26; have e28 := zQ hV 28; have q9 := hS.1; obtain ⟨q0, q1⟩ := hS.2.1.two; obtain ⟨q2, q3⟩ := hS.2.2.1.two; go_simp; exact zO hK
 refine zS (fun w' hS hV K hK => ?_) ?_
 · have e26 := zQ hV 26; have e29 := zQ hV 29; have q9 := hS.1; obtain ⟨q0, q1⟩ := hS.2.1.two; obtain ⟨q2, q3⟩ := hS.2.2.1.two; go_simp; exact zO hK
 refine zS (fun w' hS hV K hK => ?_) ?_
 · have e26 := zQ hV 26; have q9 := hS.1; obtain ⟨q0, q1⟩ := hS.2.1.two; obtain ⟨q2, q3⟩ := hS.2.2.1.two; go_simp; exact zO hK
 refine zS (fun w' hS hV K hK => ?_) ?_
 · have e26 := zQ hV 26; have e31 := zQ hV 31; have q9 := hS.1; obtain ⟨q0, q1⟩ := hS.2.1.two; obtain ⟨q2, q3⟩ := hS.2.2.1.two; go_simp; exact zO hK
 refine zS (fun w' hS hV K hK => ?_) ?_
 · have e26 := zQ hV 26; have e30 := zQ hV 30; have e32 := zQ hV 32; have q9 := hS.1; obtain ⟨q0, q1⟩ := hS.2.1.two; obtain ⟨q2, q3⟩ := hS.2.2.1.two; go_simp; exact zO hK
 refine zS (fun w' hS hV K hK => ?_) ?_
 · have e26 := zQ hV 26; have e33 := zQ hV 33; have q9 := hS.1; obtain ⟨q0, q1⟩ := hS.2.1.two; obtain ⟨q2, q3⟩ := hS.2.2.1.two; go_simp; exact zO hK
 refine zS (fun w' hS hV K hK => ?_) ?_
 · have e34 := zQ hV 34; have q9 := hS.1; obtain ⟨q0, q1⟩ := hS.2.1.two; obtain ⟨q2, q3⟩ := hS.2.2.1.two; go_simp; exact zO hK
 refine zS (fun w' hS hV K hK => ?_) ?_
 · have e35 := zQ hV 35; have q9 := hS.1; obtain ⟨q0, q1⟩ := hS.2.1.two; obtain ⟨q2, q3⟩ := hS.2.2.1.two; go_simp; exact zO hK
 refine zS (fun w' hS hV K hK => ?_) ?_
 · have e35 := zQ hV 35; have e36 := zQ hV 36; have q9 := hS.1; obtain ⟨q0, q1⟩ := hS.2.1.two; obtain ⟨q2, q3⟩ := hS.2.2.1.two; go_simp; exact zO hK
 refine zS (fun w' hS hV K hK => ?_) ?_
 · have e35 := zQ hV 35; have q9 := hS.1; obtain ⟨q0, q1⟩ := hS.2.1.two; obtain ⟨q2, q3⟩ := hS.2.2.1.two; go_simp; exact zO hK
 refine zS (fun w' hS hV K hK => ?_) ?_
 · have e35 := zQ hV 35; have e37 := zQ hV 37; have e38 := zQ hV 38; have q9 := hS.1; obtain ⟨q0, q1⟩ := hS.2.1.two; obtain ⟨q2, q3⟩ := hS.2.2.1.two; go_simp; exact zO hK
 refine zS (fun w' hS hV K hK => ?_) ?_
 · have e35 := zQ hV 35; have e39 := zQ hV 39; have q9 := hS.1; obtain ⟨q0, q1⟩ := hS.2.1.two; obtain ⟨q2, q3⟩ := hS.2.2.1.two; go_simp; exact zO hK
 refine zS (fun w' hS hV K hK => ?_) ?_
 · have e35 := zQ hV 35; have e40 := zQ hV 40; have q9 := hS.1; obtain ⟨q0, q1⟩ := hS.2.1.two; obtain ⟨q2, q3⟩ := hS.2.2.1.two; go_simp; exact zO hK
 refine fun w' hS hV => ?_
 have e0 := zT hV 0
 have e1 := zT hV 1
 have e2 := zT hV 2
 have e3 := zT hV 3
 have e4 := zT hV 4
 have e5 := zT hV 5
 have e6 := zT hV 6
 have e7 := zT hV 7
 have e8 := zT hV 8
 have e9 := zT hV 9
 have e10 := zT hV 10
 have e11 := zT hV 11
 have e12 := zT hV 12
 have e13 := zT hV 13
 have e14 := zT hV 14
 have e15 := zT hV 15
 have e16 := zT hV 16
 have e17 := zT hV 17
 have e18 := zT hV 18
 have e19 := zT hV 19
 have e20 := zT hV 20
 have e21 := zT hV 21
 have e22 := zT hV 22
 have e23 := zT hV 23
 have e24 := zT hV 24
 have e25 := zT hV 25
 have e26 := zT hV 26
 have e27 := zT hV 27
 have e28 := zT hV 28
 have e29 := zT hV 29
 have e30 := zT hV 30
 have e31 := zT hV 31
 have e32 := zT hV 32
 have e33 := zT hV 33
 have e34 := zT hV 34
 have e35 := zT hV 35
 have e36 := zT hV 36
 have e37 := zT hV 37
 have e38 := zT hV 38
 have e39 := zT hV 39
 have e40 := zT hV 40
 have e41 := zT hV 41
 simp only [e0, e1, e2, e3, e4, e5, e6, e7, e8, e9, e10, e11, e12, e13, e14, e15, e16, e17, e18, e19, e20, e21, e22, e23, e24, e25, e26, e27, e28, e29, e30, e31, e32, e33, e34, e35, e36, e37, e38, e39, e40, e41]
 clear e0 e1 e2 e3 e4 e5 e6 e7 e8 e9 e10 e11 e12 e13 e14 e15 e16 e17 e18 e19 e20 e21 e22 e23 e24 e25 e26 e27 e28 e29 e30 e31 e32 e33 e34 e35 e36 e37 e38 e39 e40 e41
 refine wpAny_done (by kernel_rfl) ?_ _
 have hb9 := hS.2.2.2
 go_wp2
 go_ret
 exact ⟨rfl, hb9⟩
set_option maxHeartbeats 3200000 in
set_option maxRecDepth 8000 in
theorem isIsometry_1 (P : Int) (A : Option Addr) (n c : Nat) (sq : List Int) (D : Option Addr) (r d : Nat) (M : List (List Int)) (m : Nat) (w : World) (hp0 : 0 < P) (hp1 : P ≤ 13) (hr0 : 0 < r) (hr : r ≤ 16) (hm1 : 1 ≤ m) (hm : m ≤ 16) (hd : RdII w D r M) (hM : Rect m M) (hb : (M.all fun r => nums P r) = true) (h1 : r ≠ n) :
    Calls Tryz.prog 120 #[.agg #[.int .i64 P, .slice A n c], .agg #[.int .i64 P, .slice A n c], .slice D r d] w fun e w' => e = .returned (.bool false) ∧ Below w.heap.size w w' := by
 have t7 : (P != P) = false := by simp
 have t4 : ((r : Int) != (n : Int)) = true := by rw [bne_iff_ne]; omega
 have t6 : ((n : Int) != (n : Int)) = false := by simp
 have hB0 : Below w.heap.size w ((w.alloc (.cells #[.int .i64 P, .slice A n c] 26)).alloc (.cells #[.int .i64 P, .slice A n c] 26)) := (zG.alloc (Nat.le_refl _) _).alloc (by simp) _
 have k0 : Blk ((w.alloc (.cells #[.int .i64 P, .slice A n c] 26)).alloc (.cells #[.int .i64 P, .slice A n c] 26)) w.heap.size 26 #[.int .i64 P, .slice A n c] := (Blk.new _ _ _).alloc _
 have k1 : Blk ((w.alloc (.cells #[.int .i64 P, .slice A n c] 26)).alloc (.cells #[.int .i64 P, .slice A n c] 26)) (w.heap.size + 1) 26 #[.int .i64 P, .slice A n c] := Blk.newAt3 (by simp)
 have HIM := Lib.hid fun w' (h : Below w.heap.size w w') => isMatrix_any P D r d M m w' hp0 hp1 hr0 hr hm1 hm (hd.below h) hM
 rw [hb] at HIM
 obtain ⟨g, o, rfl, hx0, A0, c0, hc0, -, -⟩ := (hd.below hB0).at_ hr0
 rw [hM M[0] (List.getElem_mem hx0), Nat.add_zero] at hc0
 clear hM hd hb
 obtain ⟨q0, q1⟩ := k0.two
 obtain ⟨q2, q3⟩ := k1.two
 go_enter Tryz.func120, Tryz.ntmps120
 go_wp2
 refine wp_obs 42 [[],[0],[],[2],[0,1,2,3],[0,1,2,3,4],[0,1,2,3,4,5],[0,1,2,3,4,5,6],[0,1,2,3,4,5],[0,1,2,3,4,5,8],[0,1,2,3,4,5,6,7,8,9],[0,1,2,3,4,5,6,7,8,9,10],[0,1,2,3,4,5,6,7,8,9,10,11],[0,1,2,3,4,5,6,7,8,9,10,11,12],[0,1,2,3,4,5,6,7,8,9,10,11,12,13],[0,1,2,3,4,5,6,7,8,9,10,11,12],[0,1,2,3,4,5,6,7,8,9,10,11,12,13,14,15],[0,1,2,3,4,5,6,7,8,9,10,11,12,13,14,15,16],[0,1,2,3,4,5,6,7,8,9,10,11,12,13,14,15,16,17],[0,1,2,3,4,5,6,7,8,9,10,11,12,13,14,15,16,17,18],[0,1,2,3,4,5,6,7,8,9,10,11,12,13,14,15,16,17,18,19],[0,1,2,3,4,5,6,7,8,9,10,11,12,13,14,15,16,17,18,19,20],[0,1,2,3,4,5,6,7,8,9,10,11,12,13,14,15,16,17,18,19],[0,1,2,3,4,5,6,7,8,9,10,11,12,13,14,15,16,17,18,19,22],[0,1,2,3,4,5,6,7,8,9,10,11,12,13,14,15,16,17,18,19,20,21,22,23],[0,1,2,3,4,5,6,7,8,9,10,11,12,13,14,15,16,17,18,19,20,21,22,23,24],[0,1,2,3,4,5,6,7,8,9,10,11,12,13,14,15,16,17,18,19,20,21,22,23,24,25],[0,1,2,3,4,5,6,7,8,9,10,11,12,13,14,15,16,17,18,19,20,21,22,23,24,25,26],[0,1,2,3,4,5,6,7,8,9,10,11,12,13,14,15,16,17,18,19,20,21,22,23,24,25,26,27],[0,1,2,3,4,5,6,7,8,9,10,11,12,13,14,15,16,17,18,19,20,21,22,23,24,25,26,27,28],[0,1,2,3,4,5,6,7,8,9,10,11,12,13,14,15,16,17,18,19,20,21,22,23,24,25,26,27,28,29],[0,1,2,3,4,5,6,7,8,9,10,11,12,13,14,15,16,17,18,19,20,21,22,23,24,25,26],[0,1,2,3,4,5,6,7,8,9,10,11,12,13,14,15,16,17,18,19,20,21,22,23,24,25,26,31],[0,1,2,3,4,5,6,7,8,9,10,11,12,13,14,15,16,17,18,19,20,21,22,23,24,25,26,27,28,29,30,31,32],[0,1,2,3,4,5,6,7,8,9,10,11,12,13,14,15,16,17,18,19,20,21,22,23,24,25,26,27,28,29,30,31,32,33],[0,1,2,3,4,5,6,7,8,9,10,11,12,13,14,15,16,17,18,19,20,21,22,23,24,25,26,27,28,29,30,31,32,33,34],[0,1,2,3,4,5,6,7,8,9,10,11,12,13,14,15,16,17,18,19,20,21,22,23,24,25,26,27,28,29,30,31,32,33,34,35],[0,1,2,3,4,5,6,7,8,9,10,11,12,13,14,15,16,17,18,19,20,21,22,23,24,25,26,27,28,29,30,31,32,33,34,35,36],[0,1,2,3,4,5,6,7,8,9,10,11,12,13,14,15,16,17,18,19,20,21,22,23,24,25,26,27,28,29,30,31,32,33,34,35],[0,1,2,3,4,5,6,7,8,9,10,11,12,13,14,15,16,17,18,19,20,21,22,23,24,25,26,27,28,29,30,31,32,33,34,35,36,37,38],[0,1,2,3,4,5,6,7,8,9,10,11,12,13,14,15,16,17,18,19,20,21,22,23,24,25,26,27,28,29,30,31,32,33,34,35,36,37,38,39],[0,1,2,3,4,5,6,7,8,9,10,11,12,13,14,15,16,17,18,19,20,21,22,23,24,25,26,27,28,29,30,31,32,33,34,35,36,37,38,39,40]] [VIs (.pointer (some ⟨w.heap.size, 0, none⟩)), VIs (.int .i64 (P)), VIs (.pointer (some ⟨w.heap.size + 1, 0, none⟩)), VIs (.int .i64 (P)), VIs (.bool false), VIs (.bool false), VIs (.agg #[.int .i64 P, .slice A n c]), VIs (.int .i64 (n)), VIs (.agg #[.int .i64 P, .slice A n c]), VIs (.int .i64 (n)), VIs (.bool false), VIs (.bool false), VIs (.bool false), VIs (.agg #[.int .i64 P, .slice A n c]), VIs (.int .i64 (P)), VIs (.slice (some ⟨g, o, none⟩) r d), VIs (.bool true), VIs (.bool false), VIs (.bool false), VIs (.bool false), VIs (.slice (some ⟨g, o, none⟩) r d), VIs (.int .i64 (r)), VIs (.agg #[.int .i64 P, .slice A n c]), VIs (.int .i64 (n)), VIs (.bool true), VIs (.bool true), VIs (.bool true), VIs undef, VIs undef, VIs undef, VIs undef, VIs undef, VIs undef, VIs undef, VIs (.bool true), VIs (.bool true), VIs undef, VIs undef, VIs undef, VIs undef, VIs undef, VIs (.bool true)] (fun w' => w'.cell? ⟨g, o, none⟩ = some (.slice A0 m c0) ∧ Blk w' w.heap.size 26 #[.int .i64 P, .slice A n c] ∧ Blk w' (w.heap.size + 1) 26 #[.int .i64 P, .slice A n c] ∧ Below w.heap.size w w') (by kernel_rfl) (by kernel_rfl) (fun _ _ h hb => ⟨(hb.cell (World.block_lt_of_cell? _ _ h.1)).trans h.1, h.2.1.below hb h.2.1.lt, h.2.2.1.below hb h.2.2.1.lt, h.2.2.2.trans (hb.mono h.2.2.2.size)⟩) (⟨hc0, k0.drew, k1.drew, hB0.drew⟩) (fun x => ?_)
 refine zS (fun w' hS hV K hK => ?_) ?_
 · have q9 := hS.1; obtain ⟨q0, q1⟩ := hS.2.1.two; obtain ⟨q2, q3⟩ := hS.2.2.1.two; go_simp; exact zO hK
 refine zS (fun w' hS hV K hK => ?_) ?_
 · have e0 := zQ hV 0; have q9 := hS.1; obtain ⟨q0, q1⟩ := hS.2.1.two; obtain ⟨q2, q3⟩ := hS.2.2.1.two; go_simp; exact zO hK
 refine zS (fun w' hS hV K hK => ?_) ?_
 · have q9 := hS.1; obtain ⟨q0, q1⟩ := hS.2.1.two; obtain ⟨q2, q3⟩ := hS.2.2.1.two; go_simp; exact zO hK
 refine zS (fun w' hS hV K hK => ?_) ?_
 · have e2 := zQ hV 2; have q9 := hS.1; obtain ⟨q0, q1⟩ := hS.2.1.two; obtain ⟨q2, q3⟩ := hS.2.2.1.two; go_simp; exact zO hK
 refine zS (fun w' hS hV K hK => ?_) ?_
 · have e1 := zQ hV 1; have e3 := zQ hV 3; have q9 := hS.1; obtain ⟨q0, q1⟩ := hS.2.1.two; obtain ⟨q2, q3⟩ := hS.2.2.1.two; go_simp; exact zO hK
 refine zS (fun w' hS hV K hK => ?_) ?_
 · have e4 := zQ hV 4; have q9 := hS.1; obtain ⟨q0, q1⟩ := hS.2.1.two; obtain ⟨q2, q3⟩ := hS.2.2.1.two; go_simp; exact zO hK
 refine zS (fun w' hS hV K hK => ?_) ?_
 · have e5 := zQ hV 5; have q9 := hS.1; obtain ⟨q0, q1⟩ := hS.2.1.two; obtain ⟨q2, q3⟩ := hS.2.2.1.two; go_simp; exact zO hK
 refine zS (fun w' hS hV K hK => ?_) ?_
 · have e5 := zQ hV 5; have e6 := zQ hV 6; have q9 := hS.1; obtain ⟨q0, q1⟩ := hS.2.1.two; obtain ⟨q2, q3⟩ := hS.2.2.1.two; go_simp; refine (dim_any _ _ _ _ _).mono ?_; rintro e v1 ⟨rfl, hb⟩; exact hK.out _ _ _ rfl rfl rfl hb
 refine zS (fun w' hS hV K hK => ?_) ?_
 · have e5 := zQ hV 5; have q9 := hS.1; obtain ⟨q0, q1⟩ := hS.2.1.two; obtain ⟨q2, q3⟩ := hS.2.2.1.two; go_simp; exact zO hK
 refine zS (fun w' hS hV K hK => ?_) ?_
 · have e5 := zQ hV 5; have e8 := zQ hV 8; have q9 := hS.1; obtain ⟨q0, q1⟩ := hS.2.1.two; obtain ⟨q2, q3⟩ := hS.2.2.1.two; go_simp; refine (dim_any _ _ _ _ _).mono ?_; rintro e v1 ⟨rfl, hb⟩; exact hK.out _ _ _ rfl rfl rfl hb
 refine zS (fun w' hS hV K hK => ?_) ?_
 · have e5 := zQ hV 5; have e7 := zQ hV 7; have e9 := zQ hV 9; have q9 := hS.1; obtain ⟨q0, q1⟩ := hS.2.1.two; obtain ⟨q2, q3⟩ := hS.2.2.1.two; go_simp; exact zO hK
 refine zS (fun w' hS hV K hK => ?_) ?_
 · have e5 := zQ hV 5; have e10 := zQ hV 10; have q9 := hS.1; obtain ⟨q0, q1⟩ := hS.2.1.two; obtain ⟨q2, q3⟩ := hS.2.2.1.two; go_simp; exact zO hK
 refine zS (fun w' hS hV K hK => ?_) ?_
 · have e11 := zQ hV 11; have q9 := hS.1; obtain ⟨q0, q1⟩ := hS.2.1.two; obtain ⟨q2, q3⟩ := hS.2.2.1.two; go_simp; exact zO hK
 refine zS (fun w' hS hV K hK => ?_) ?_
 · have e12 := zQ hV 12; have q9 := hS.1; obtain ⟨q0, q1⟩ := hS.2.1.two; obtain ⟨q2, q3⟩ := hS.2.2.1.two; go_simp; exact zO hK
 refine zS (fun w' hS hV K hK => ?_) ?_
 · have e12 := zQ hV 12; have e13 := zQ hV 13; have q9 := hS.1; obtain ⟨q0, q1⟩ := hS.2.1.two; obtain ⟨q2, q3⟩ := hS.2.2.1.two; go_simp; refine (field_any _ _ _ _ _).mono ?_; rintro e v1 ⟨rfl, hb⟩; exact hK.out _ _ _ rfl rfl rfl hb
 refine zS (fun w' hS hV K hK => ?_) ?_
 · have e12 := zQ hV 12; have q9 := hS.1; obtain ⟨q0, q1⟩ := hS.2.1.two; obtain ⟨q2, q3⟩ := hS.2.2.1.two; go_simp; exact zO hK
 refine zS (fun w' hS hV K hK => ?_) ?_
 · have e12 := zQ hV 12; have e14 := zQ hV 14; have e15 := zQ hV 15; have q9 := hS.1; obtain ⟨q0, q1⟩ := hS.2.1.two; obtain ⟨q2, q3⟩ := hS.2.2.1.two; go_simp; refine (HIM.out _ hS.2.2.2).mono ?_; rintro e v1 ⟨rfl, rfl⟩; exact zO hK
 refine zS (fun w' hS hV K hK => ?_) ?_
 · have e12 := zQ hV 12; have e16 := zQ hV 16; have q9 := hS.1; obtain ⟨q0, q1⟩ := hS.2.1.two; obtain ⟨q2, q3⟩ := hS.2.2.1.two; go_simp; exact zO hK
 refine zS (fun w' hS hV K hK => ?_) ?_
 · have e12 := zQ hV 12; have e17 := zQ hV 17; have q9 := hS.1; obtain ⟨q0, q1⟩ := hS.2.1.two; obtain ⟨q2, q3⟩ := hS.2.2.1.two; go_simp; exact zO hK
 refine zS (fun w' hS hV K hK => ?_) ?_
 · have e18 := zQ hV 18; have q9 := hS.1; obtain ⟨q0, q1⟩ := hS.2.1.two; obtain ⟨q2, q3⟩ := hS.2.2.1.two; go_simp; exact zO hK
 refine zS (fun w' hS hV K hK => ?_) ?_
 · have e19 := zQ hV 19; have q9 := hS.1; obtain ⟨q0, q1⟩ := hS.2.1.two; obtain ⟨q2, q3⟩ := hS.2.2.1.two; go_simp; exact zO hK
 refine zS (fun w' hS hV K hK => ?_) ?_
 · have e19 := zQ hV 19; have e20 := zQ hV 20; have q9 := hS.1; obtain ⟨q0, q1⟩ := hS.2.1.two; obtain ⟨q2, q3⟩ := hS.2.2.1.two; go_simp; exact zO hK
 refine zS (fun w' hS hV K hK => ?_) ?_
 · have e19 := zQ hV 19; have q9 := hS.1; obtain ⟨q0, q1⟩ := hS.2.1.two; obtain ⟨q2, q3⟩ := hS.2.2.1.two; go_simp; exact zO hK
 refine zS (fun w' hS hV K hK => ?_) ?_
 · have e19 := zQ hV 19; have e22 := zQ hV 22; have q9 := hS.1; obtain ⟨q0, q1⟩ := hS.2.1.two; obtain ⟨q2, q3⟩ := hS.2.2.1.two; go_simp; refine (dim_any _ _ _ _ _).mono ?_; rintro e v1 ⟨rfl, hb⟩; exact hK.out _ _ _ rfl rfl rfl hb
 refine zS (fun w' hS hV K hK => ?_) ?_
 · have e19 := zQ hV 19; have e21 := zQ hV 21; have e23 := zQ hV 23; have q9 := hS.1; obtain ⟨q0, q1⟩ := hS.2.1.two; obtain ⟨q2, q3⟩ := hS.2.2.1.two; go_simp; exact zO hK
 refine zS (fun w' hS hV K hK => ?_) ?_
 · have e19 := zQ hV 19; have e24 := zQ hV 24; have q9 := hS.1; obtain ⟨q0, q1⟩ := hS.2.1.two; obtain ⟨q2, q3⟩ := hS.2.2.1.two; go_simp; exact zO hK
 refine zS (fun w' hS hV K hK => ?_) ?_
 · have e25 := zQ hV 25; have q9 := hS.1; obtain ⟨q0, q1⟩ := hS.2.1.two; obtain ⟨q2, q3⟩ := hS.2.2.1.two; go_simp; exact zO hK
 refine zS (fun w' hS hV K hK => ?_) ?_
 · have e26 := zQ hV 26; have q9 := hS.1; obtain ⟨q0, q1⟩ := hS.2.1.two; obtain ⟨q2, q3⟩ := hS.2.2.1.two; go_simp; exact zO hK
 refine zS (fun w' hS hV K hK => ?_) ?_
 · have e26 := zQ hV 26; have e27 := zQ hV 27; have q9 := hS.1; obtain ⟨q0, q1⟩ := hS.2.1.two; obtain ⟨q2, q3⟩ := hS.2.2.1.two; go_simp; exact zO hK
 refine zS (fun w' hS hV K hK => ?_) ?_
 · have e26 := zQ hV 26; have e28 := zQ hV 28; have q9 := hS.1; obtain ⟨q0, q1⟩ := hS.2.1.two; obtain ⟨q2, q3⟩ := hS.2.2.1.two; go_simp; exact zO hK
 refine zS (fun w' hS hV K hK => ?_) ?_
 · have e26 := zQ hV 26; have e29 := zQ hV 29; have q9 := hS.1; obtain ⟨q0, q1⟩ := hS.2.1.two; obtain ⟨q2, q3⟩ := hS.2.2.1.two; go_simp; exact zO hK
 refine zS (fun w' hS hV K hK => ?_) ?_
 · have e26 := zQ hV 26; have q9 := hS.1; obtain ⟨q0, q1⟩ := hS.2.1.two; obtain ⟨q2, q3⟩ := hS.2.2.1.two; go_simp; exact zO hK
 refine zS (fun w' hS hV K hK => ?_) ?_
 · have e26 := zQ hV 26; have e31 := zQ hV 31; have q9 := hS.1; obtain ⟨q0, q1⟩ := hS.2.1.two; obtain ⟨q2, q3⟩ := hS.2.2.1.two; go_simp; exact zO hK
 refine zS (fun w' hS hV K hK => ?_) ?_
 · have e26 := zQ hV 26; have e30 := zQ hV 30; have e32 := zQ hV 32; have q9 := hS.1; obtain ⟨q0, q1⟩ := hS.2.1.two; obtain ⟨q2, q3⟩ := hS.2.2.1.two; go_simp; exact zO hK
 refine zS (fun w' hS hV K hK => ?_) ?_
 · have e26 := zQ hV 26; have e33 := zQ hV 33; have q9 := hS.1; obtain ⟨q0, q1⟩ := hS.2.1.two; obtain ⟨q2, q3⟩ := hS.2.2.1.two; go_simp; exact zO hK
 refine zS (fun w' hS hV K hK => ?_) ?_
 · have e34 := zQ hV 34; have q9 := hS.1; obtain ⟨q0, q1⟩ := hS.2.1.two; obtain ⟨q2, q3⟩ := hS.2.2.1.two; go_simp; exact zO hK
 refine zS (fun w' hS hV K hK => ?_) ?_
 · have e35 := zQ hV 35; have q9 := hS.1; obtain ⟨q0, q1⟩ := hS.2.1.two; obtain ⟨q2, q3⟩ := hS.2.2.1.two; go_simp; exact zO hK
 refine zS (fun w' hS hV K hK => ?_) ?_
 · have e35 := zQ hV 35; have e36 := zQ hV 36; have q9 := hS.1; obtain ⟨q0, q1⟩ := hS.2.1.two; obtain ⟨q2, q3⟩ := hS.2.2.1.two; go_simp; exact zO hK
 refine zS (fun w' hS hV K hK => ?_) ?_
 · have e35 := zQ hV 35; have q9 := hS.1; obtain ⟨q0, q1⟩ := hS.2.1.two; obtain ⟨q2, q3⟩ := hS.2.2.1.two; go_simp; exact zO hK
 refine zS (fun w' hS hV K hK => ?_) ?_
 · have e35 := zQ hV 35; have e37 := zQ hV 37; have e38 := zQ hV 38; have q9 := hS.1; obtain ⟨q0, q1⟩ := hS.2.1.two; obtain ⟨q2, q3⟩ := hS.2.2.1.two; go_simp; exact zO hK
 refine zS (fun w' hS hV K hK => ?_) ?_
 · have e35 := zQ hV 35; have e39 := zQ hV 39; have q9 := hS.1; obtain ⟨q0, q1⟩ := hS.2.1.two; obtain ⟨q2, q3⟩ := hS.2.2.1.two; go_simp; exact zO hK
 refine zS (fun w' hS hV K hK => ?_) ?_
 · have e35 := zQ hV 35; have e40 := zQ hV 40; have q9 := hS.1; obtain ⟨q0, q1⟩ := hS.2.1.two; obtain ⟨q2, q3⟩ := hS.2.2.1.two; go_simp; exact zO hK
 refine fun w' hS hV => ?_
 have e0 := zT hV 0
 have e1 := zT hV 1
 have e2 := zT hV 2
 have e3 := zT hV 3
 have e4 := zT hV 4
 have e5 := zT hV 5
 have e6 := zT hV 6
 have e7 := zT hV 7
 have e8 := zT hV 8
 have e9 := zT hV 9
 have e10 := zT hV 10
 have e11 := zT hV 11
 have e12 := zT hV 12
 have e13 := zT hV 13
 have e14 := zT hV 14
 have e15 := zT hV 15
 have e16 := zT hV 16
 have e17 := zT hV 17
 have e18 := zT hV 18
 have e19 := zT hV 19
 have e20 := zT hV 20
 have e21 := zT hV 21
 have e22 := zT hV 22
 have e23 := zT hV 23
 have e24 := zT hV 24
 have e25 := zT hV 25
 have e26 := zT hV 26
 have e27 := zT hV 27
 have e28 := zT hV 28
 have e29 := zT hV 29
 have e30 := zT hV 30
 have e31 := zT hV 31
 have e32 := zT hV 32
 have e33 := zT hV 33
 have e34 := zT hV 34
 have e35 := zT hV 35
 have e36 := zT hV 36
 have e37 := zT hV 37
 have e38 := zT hV 38
 have e39 := zT hV 39
 have e40 := zT hV 40
 have e41 := zT hV 41
 simp only [e0, e1, e2, e3, e4, e5, e6, e7, e8, e9, e10, e11, e12, e13, e14, e15, e16, e17, e18, e19, e20, e21, e22, e23, e24, e25, e26, e27, e28, e29, e30, e31, e32, e33, e34, e35, e36, e37, e38, e39, e40, e41]
 clear e0 e1 e2 e3 e4 e5 e6 e7 e8 e9 e10 e11 e12 e13 e14 e15 e16 e17 e18 e19 e20 e21 e22 e23 e24 e25 e26 e27 e28 e29 e30 e31 e32 e33 e34 e35 e36 e37 e38 e39 e40 e41
 refine wpAny_done (by kernel_rfl) ?_ _
 have hb9 := hS.2.2.2
 go_wp2
 go_ret
 exact ⟨rfl, hb9⟩
set_option maxHeartbeats 3200000 in
set_option maxRecDepth 8000 in
theorem isIsometry_2 (P : Int) (A : Option Addr) (n c : Nat) (sq : List Int) (D : Option Addr) (r d : Nat) (M : List (List Int)) (m : Nat) (w : World) (hp0 : 0 < P) (hp1 : P ≤ 13) (hr0 : 0 < r) (hr : r ≤ 16) (hm1 : 1 ≤ m) (hm : m ≤ 16) (hd : RdII w D r M) (hM : Rect m M) (hb : (M.all fun r => nums P r) = true) (h1 : r = n) (h2 : m ≠ n) :
    Calls Tryz.prog 120 #[.agg #[.int .i64 P, .slice A n c], .agg #[.int .i64 P, .slice A n c], .slice D r d] w fun e w' => e = .returned (.bool false) ∧ Below w.heap.size w w' := by
 have t7 : (P != P) = false := by simp
 subst h1
 have t4 : ((r : Int) != (r : Int)) = false := by simp
 have t5 : ((m : Int) != (r : Int)) = true := by rw [bne_iff_ne]; omega
 have hB0 : Below w.heap.size w ((w.alloc (.cells #[.int .i64 P, .slice A r c] 26)).alloc (.cells #[.int .i64 P, .slice A r c] 26)) := (zG.alloc (Nat.le_refl _) _).alloc (by simp) _
 have k0 : Blk ((w.alloc (.cells #[.int .i64 P, .slice A r c] 26)).alloc (.cells #[.int .i64 P, .slice A r c] 26)) w.heap.size 26 #[.int .i64 P, .slice A r c] := (Blk.new _ _ _).alloc _
 have k1 : Blk ((w.alloc (.cells #[.int .i64 P, .slice A r c] 26)).alloc (.cells #[.int .i64 P, .slice A r c] 26)) (w.heap.size + 1) 26 #[.int .i64 P, .slice A r c] := Blk.newAt3 (by simp)
 have HIM := Lib.hid fun w' (h : Below w.heap.size w w') => isMatrix_any P D r d M m w' hp0 hp1 hr0 hr hm1 hm (hd.below h) hM
 rw [hb] at HIM
 obtain ⟨g, o, rfl, hx0, A0, c0, hc0, -, -⟩ := (hd.below hB0).at_ hr0
 rw [hM M[0] (List.getElem_mem hx0), Nat.add_zero] at hc0
 clear hM hd hb
 obtain ⟨q0, q1⟩ := k0.two
 obtain ⟨q2, q3⟩ := k1.two
 go_enter Tryz.func120, Tryz.ntmps120
 go_wp2
 refine wp_obs 42 [[],[0],[],[2],[0,1,2,3],[0,1,2,3,4],[0,1,2,3,4,5],[0,1,2,3,4,5,6],[0,1,2,3,4,5],[0,1,2,3,4,5,8],[0,1,2,3,4,5,6,7,8,9],[0,1,2,3,4,5,6,7,8,9,10],[0,1,2,3,4,5,6,7,8,9,10,11],[0,1,2,3,4,5,6,7,8,9,10,11,12],[0,1,2,3,4,5,6,7,8,9,10,11,12,13],[0,1,2,3,4,5,6,7,8,9,10,11,12],[0,1,2,3,4,5,6,7,8,9,10,11,12,13,14,15],[0,1,2,3,4,5,6,7,8,9,10,11,12,13,14,15,16],[0,1,2,3,4,5,6,7,8,9,10,11,12,13,14,15,16,17],[0,1,2,3,4,5,6,7,8,9,10,11,12,13,14,15,16,17,18],[0,1,2,3,4,5,6,7,8,9,10,11,12,13,14,15,16,17,18,19],[0,1,2,3,4,5,6,7,8,9,10,11,12,13,14,15,16,17,18,19,20],[0,1,2,3,4,5,6,7,8,9,10,11,12,13,14,15,16,17,18,19],[0,1,2,3,4,5,6,7,8,9,10,11,12,13,14,15,16,17,18,19,22],[0,1,2,3,4,5,6,7,8,9,10,11,12,13,14,15,16,17,18,19,20,21,22,23],[0,1,2,3,4,5,6,7,8,9,10,11,12,13,14,15,16,17,18,19,20,21,22,23,24],[0,1,2,3,4,5,6,7,8,9,10,11,12,13,14,15,16,17,18,19,20,21,22,23,24,25],[0,1,2,3,4,5,6,7,8,9,10,11,12,13,14,15,16,17,18,19,20,21,22,23,24,25,26],[0,1,2,3,4,5,6,7,8,9,10,11,12,13,14,15,16,17,18,19,20,21,22,23,24,25,26,27],[0,1,2,3,4,5,6,7,8,9,10,11,12,13,14,15,16,17,18,19,20,21,22,23,24,25,26,27,28],[0,1,2,3,4,5,6,7,8,9,10,11,12,13,14,15,16,17,18,19,20,21,22,23,24,25,26,27,28,29],[0,1,2,3,4,5,6,7,8,9,10,11,12,13,14,15,16,17,18,19,20,21,22,23,24,25,26],[0,1,2,3,4,5,6,7,8,9,10,11,12,13,14,15,16,17,18,19,20,21,22,23,24,25,26,31],[0,1,2,3,4,5,6,7,8,9,10,11,12,13,14,15,16,17,18,19,20,21,22,23,24,25,26,27,28,29,30,31,32],[0,1,2,3,4,5,6,7,8,9,10,11,12,13,14,15,16,17,18,19,20,21,22,23,24,25,26,27,28,29,30,31,32,33],[0,1,2,3,4,5,6,7,8,9,10,11,12,13,14,15,16,17,18,19,20,21,22,23,24,25,26,27,28,29,30,31,32,33,34],[0,1,2,3,4,5,6,7,8,9,10,11,12,13,14,15,16,17,18,19,20,21,22,23,24,25,26,27,28,29,30,31,32,33,34,35],[0,1,2,3,4,5,6,7,8,9,10,11,12,13,14,15,16,17,18,19,20,21,22,23,24,25,26,27,28,29,30,31,32,33,34,35,36],[0,1,2,3,4,5,6,7,8,9,10,11,12,13,14,15,16,17,18,19,20,21,22,23,24,25,26,27,28,29,30,31,32,33,34,35],[0,1,2,3,4,5,6,7,8,9,10,11,12,13,14,15,16,17,18,19,20,21,22,23,24,25,26,27,28,29,30,31,32,33,34,35,36,37,38],[0,1,2,3,4,5,6,7,8,9,10,11,12,13,14,15,16,17,18,19,20,21,22,23,24,25,26,27,28,29,30,31,32,33,34,35,36,37,38,39],[0,1,2,3,4,5,6,7,8,9,10,11,12,13,14,15,16,17,18,19,20,21,22,23,24,25,26,27,28,29,30,31,32,33,34,35,36,37,38,39,40]] [VIs (.pointer (some ⟨w.heap.size, 0, none⟩)), VIs (.int .i64 (P)), VIs (.pointer (some ⟨w.heap.size + 1, 0, none⟩)), VIs (.int .i64 (P)), VIs (.bool false), VIs (.bool false), VIs (.agg #[.int .i64 P, .slice A r c]), VIs (.int .i64 (r)), VIs (.agg #[.int .i64 P, .slice A r c]), VIs (.int .i64 (r)), VIs (.bool false), VIs (.bool false), VIs (.bool false), VIs (.agg #[.int .i64 P, .slice A r c]), VIs (.int .i64 (P)), VIs (.slice (some ⟨g, o, none⟩) r d), VIs (.bool true), VIs (.bool false), VIs (.bool false), VIs (.bool false), VIs (.slice (some ⟨g, o, none⟩) r d), VIs (.int .i64 (r)), VIs (.agg #[.int .i64 P, .slice A r c]), VIs (.int .i64 (r)), VIs (.bool false), VIs (.bool false), VIs (.bool false), VIs (.slice (some ⟨g, o, none⟩) r d), VIs (.pointer (some ⟨g, o, none⟩)), VIs (.slice A0 m c0), VIs (.int .i64 (m)), VIs (.agg #[.int .i64 P, .slice A r c]), VIs (.int .i64 (r)), VIs (.bool true), VIs (.bool true), VIs (.bool true), VIs undef, VIs undef, VIs undef, VIs undef, VIs undef, VIs (.bool true)] (fun w' => w'.cell? ⟨g, o, none⟩ = some (.slice A0 m c0) ∧ Blk w' w.heap.size 26 #[.int .i64 P, .slice A r c] ∧ Blk w' (w.heap.size + 1) 26 #[.int .i64 P, .slice A r c] ∧ Below w.heap.size w w') (by kernel_rfl) (by kernel_rfl) (fun _ _ h hb => ⟨(hb.cell (World.block_lt_of_cell? _ _ h.1)).trans h.1, h.2.1.below hb h.2.1.lt, h.2.2.1.below hb h.2.2.1.lt, h.2.2.2.trans (hb.mono h.2.2.2.size)⟩) (⟨hc0, k0.drew, k1.drew, hB0.drew⟩) (fun x => ?_)
 refine zS (fun w' hS hV K hK => ?_) ?_
 · have q9 := hS.1; obtain ⟨q0, q1⟩ := hS.2.1.two; obtain ⟨q2, q3⟩ := hS.2.2.1.two; go_simp; exact zO hK
 refine zS (fun w' hS hV K hK => ?_) ?_
 · have e0 := zQ hV 0; have q9 := hS.1; obtain ⟨q0, q1⟩ := hS.2.1.two; obtain ⟨q2, q3⟩ := hS.2.2.1.two; go_simp; exact zO hK
 refine zS (fun w' hS hV K hK => ?_) ?_
 · have q9 := hS.1; obtain ⟨q0, q1⟩ := hS.2.1.two; obtain ⟨q2, q3⟩ := hS.2.2.1.two; go_simp; exact zO hK
 refine zS (fun w' hS hV K hK => ?_) ?_
 · have e2 := zQ hV 2; have q9 := hS.1; obtain ⟨q0, q1⟩ := hS.2.1.two; obtain ⟨q2, q3⟩ := hS.2.2.1.two; go_simp; exact zO hK
 refine zS (fun w' hS hV K hK => ?_) ?_
 · have e1 := zQ hV 1; have e3 := zQ hV 3; have q9 := hS.1; obtain ⟨q0, q1⟩ := hS.2.1.two; obtain ⟨q2, q3⟩ := hS.2.2.1.two; go_simp; exact zO hK
 refine zS (fun w' hS hV K hK => ?_) ?_
 · have e4 := zQ hV 4; have q9 := hS.1; obtain ⟨q0, q1⟩ := hS.2.1.two; obtain ⟨q2, q3⟩ := hS.2.2.1.two; go_simp; exact zO hK
 refine zS (fun w' hS hV K hK => ?_) ?_
 · have e5 := zQ hV 5; have q9 := hS.1; obtain ⟨q0, q1⟩ := hS.2.1.two; obtain ⟨q2, q3⟩ := hS.2.2.1.two; go_simp; exact zO hK
 refine zS (fun w' hS hV K hK => ?_) ?_
 · have e5 := zQ hV 5; have e6 := zQ hV 6; have q9 := hS.1; obtain ⟨q0, q1⟩ := hS.2.1.two; obtain ⟨q2, q3⟩ := hS.2.2.1.two; go_simp; refine (dim_any _ _ _ _ _).mono ?_; rintro e v1 ⟨rfl, hb⟩; exact hK.out _ _ _ rfl rfl rfl hb
 refine zS (fun w' hS hV K hK => ?_) ?_
 · have e5 := zQ hV 5; have q9 := hS.1; obtain ⟨q0, q1⟩ := hS.2.1.two; obtain ⟨q2, q3⟩ := hS.2.2.1.two; go_simp; exact zO hK
 refine zS (fun w' hS hV K hK => ?_) ?_
 · have e5 := zQ hV 5; have e8 := zQ hV 8; have q9 := hS.1; obtain ⟨q0, q1⟩ := hS.2.1.two; obtain ⟨q2, q3⟩ := hS.2.2.1.two; go_simp; refine (dim_any _ _ _ _ _).mono ?_; rintro e v1 ⟨rfl, hb⟩; exact hK.out _ _ _ rfl rfl rfl hb
 refine zS (fun w' hS hV K hK => ?_) ?_
 · have e5 := zQ hV 5; have e7 := zQ hV 7; have e9 := zQ hV 9; have q9 := hS.1; obtain ⟨q0, q1⟩ := hS.2.1.two; obtain ⟨q2, q3⟩ := hS.2.2.1.two; go_simp; exact zO hK
 refine zS (fun w' hS hV K hK => ?_) ?_
 · have e5 := zQ hV 5; have e10 := zQ hV 10; have q9 := hS.1; obtain ⟨q0, q1⟩ := hS.2.1.two; obtain ⟨q2, q3⟩ := hS.2.2.1.two; go_simp; exact zO hK
 refine zS (fun w' hS hV K hK => ?_) ?_
 · have e11 := zQ hV 11; have q9 := hS.1; obtain ⟨q0, q1⟩ := hS.2.1.two; obtain ⟨q2, q3⟩ := hS.2.2.1.two; go_simp; exact zO hK
 refine zS (fun w' hS hV K hK => ?_) ?_
 · have e12 := zQ hV 12; have q9 := hS.1; obtain ⟨q0, q1⟩ := hS.2.1.two; obtain ⟨q2, q3⟩ := hS.2.2.1.two; go_simp; exact zO hK
 refine zS (fun w' hS hV K hK => ?_) ?_
 · have e12 := zQ hV 12; have e13 := zQ hV 13; have q9 := hS.1; obtain ⟨q0, q1⟩ := hS.2.1.two; obtain ⟨q2, q3⟩ := hS.2.2.1.two; go_simp; refine (field_any _ _ _ _ _).mono ?_; rintro e v1 ⟨rfl, hb⟩; exact hK.out _ _ _ rfl rfl rfl hb
 refine zS (fun w' hS hV K hK => ?_) ?_
 · have e12 := zQ hV 12; have q9 := hS.1; obtain ⟨q0, q1⟩ := hS.2.1.two; obtain ⟨q2, q3⟩ := hS.2.2.1.two; go_simp; exact zO hK
 refine zS (fun w' hS hV K hK => ?_) ?_
 · have e12 := zQ hV 12; have e14 := zQ hV 14; have e15 := zQ hV 15; have q9 := hS.1; obtain ⟨q0, q1⟩ := hS.2.1.two; obtain ⟨q2, q3⟩ := hS.2.2.1.two; go_simp; refine (HIM.out _ hS.2.2.2).mono ?_; rintro e v1 ⟨rfl, rfl⟩; exact zO hK
 refine zS (fun w' hS hV K hK => ?_) ?_
 · have e12 := zQ hV 12; have e16 := zQ hV 16; have q9 := hS.1; obtain ⟨q0, q1⟩ := hS.2.1.two; obtain ⟨q2, q3⟩ := hS.2.2.1.two; go_simp; exact zO hK
 refine zS (fun w' hS hV K hK => ?_) ?_
 · have e12 := zQ hV 12; have e17 := zQ hV 17; have q9 := hS.1; obtain ⟨q0, q1⟩ := hS.2.1.two; obtain ⟨q2, q3⟩ := hS.2.2.1.two; go_simp; exact zO hK
 refine zS (fun w' hS hV K hK => ?_) ?_
 · have e18 := zQ hV 18; have q9 := hS.1; obtain ⟨q0, q1⟩ := hS.2.1.two; obtain ⟨q2, q3⟩ := hS.2.2.1.two; go_simp; exact zO hK
 refine zS (fun w' hS hV K hK => ?_) ?_
 · have e19 := zQ hV 19; have q9 := hS.1; obtain ⟨q0, q1⟩ := hS.2.1.two; obtain ⟨q2, q3⟩ := hS.2.2.1.two; go_simp; exact zO hK
 refine zS (fun w' hS hV K hK => ?_) ?_
 · have e19 := zQ hV 19; have e20 := zQ hV 20; have q9 := hS.1; obtain ⟨q0, q1⟩ := hS.2.1.two; obtain ⟨q2, q3⟩ := hS.2.2.1.two; go_simp; exact zO hK
 refine zS (fun w' hS hV K hK => ?_) ?_
 · have e19 := zQ hV 19; have q9 := hS.1; obtain ⟨q0, q1⟩ := hS.2.1.two; obtain ⟨q2, q3⟩ := hS.2.2.1.two; go_simp; exact zO hK
 refine zS (fun w' hS hV K hK => ?_) ?_
 · have e19 := zQ hV 19; have e22 := zQ hV 22; have q9 := hS.1; obtain ⟨q0, q1⟩ := hS.2.1.two; obtain ⟨q2, q3⟩ := hS.2.2.1.two; go_simp; refine (dim_any _ _ _ _ _).mono ?_; rintro e v1 ⟨rfl, hb⟩; exact hK.out _ _ _ rfl rfl rfl hb
 refine zS (fun w' hS hV K hK => ?_) ?_
 · have e19 := zQ hV 19; have e21 := zQ hV 21; have e23 := zQ hV 23; have q9 := hS.1; obtain ⟨q0, q1⟩ := hS.2.1.two; obtain ⟨q2, q3⟩ := hS.2.2.1.two; go_simp; exact zO hK
 refine zS (fun w' hS hV K hK => ?_) ?_
 · have e19 := zQ hV 19; have e24 := zQ hV 24; have q9 := hS.1; obtain ⟨q0, q1⟩ := hS.2.1.two; obtain ⟨q2, q3⟩ := hS.2.2.1.two; go_simp; exact zO hK
 refine zS (fun w' hS hV K hK => ?_) ?_
 · have e25 := zQ hV 25; have q9 := hS.1; obtain ⟨q0, q1⟩ := hS.2.1.two; obtain ⟨q2, q3⟩ := hS.2.2.1.two; go_simp; exact zO hK
 refine zS (fun w' hS hV K hK => ?_) ?_
 · have e26 := zQ hV 26; have q9 := hS.1; obtain ⟨q0, q1⟩ := hS.2.1.two; obtain ⟨q2, q3⟩ := hS.2.2.1.two; go_simp; exact zO hK
 refine zS (fun w' hS hV K hK => ?_) ?_
 · have e26 := zQ hV 26; have e27 := zQ hV 27; have q9 := hS.1; obtain ⟨q0, q1⟩ := hS.2.1.two; obtain ⟨q2, q3⟩ := hS.2.2.1.two; go_simp; exact zO hK
 refine zS (fun w' hS hV K hK => ?_) ?_
 · have e26 := zQ hV 26; have e28 := zQ hV 28; have q9 := hS.1; obtain ⟨q0, q1⟩ := hS.2.1.two; obtain ⟨q2, q3⟩ := hS.2.2.1.two; go_simp; exact zO hK
 refine zS (fun w' hS hV K hK => ?_) ?_
 · have e26 := zQ hV 26; have e29 := zQ hV 29; have q9 := hS.1; obtain ⟨q0, q1⟩ := hS.2.1.two; obtain ⟨q2, q3⟩ := hS.2.2.1.two; go_simp; exact zO hK
 refine zS (fun w' hS hV K hK => ?_) ?_
 · have e26 := zQ hV 26; have q9 := hS.1; obtain ⟨q0, q1⟩ := hS.2.1.two; obtain ⟨q2, q3⟩ := hS.2.2.1.two; go_simp; exact zO hK
 refine zS (fun w' hS hV K hK => ?_) ?_
 · have e26 := zQ hV 26; have e31 := zQ hV 31; have q9 := hS.1; obtain ⟨q0, q1⟩ := hS.2.1.two; obtain ⟨q2, q3⟩ := hS.2.2.1.two; go_simp; refine (dim_any _ _ _ _ _).mono ?_; rintro e v1 ⟨rfl, hb⟩; exact hK.out _ _ _ rfl rfl rfl hb
 refine zS (fun w' hS hV K hK => ?_) ?_
 · have e26 := zQ hV 26; have e30 := zQ hV 30; have e32 := zQ hV 32; have q9 := hS.1; obtain ⟨q0, q1⟩ := hS.2.1.two; obtain ⟨q2, q3⟩ := hS.2.2.1.two; go_simp; exact zO hK
 refine zS (fun w' hS hV K hK => ?_) ?_
 · have e26 := zQ hV 26; have e33 := zQ hV 33; have q9 := hS.1; obtain ⟨q0, q1⟩ := hS.2.1.two; obtain ⟨q2, q3⟩ := hS.2.2.1.two; go_simp; exact zO hK
 refine zS (fun w' hS hV K hK => ?_) ?_
 · have e34 := zQ hV 34; have q9 := hS.1; obtain ⟨q0, q1⟩ := hS.2.1.two; obtain ⟨q2, q3⟩ := hS.2.2.1.two; go_simp; exact zO hK
 refine zS (fun w' hS hV K hK => ?_) ?_
 · have e35 := zQ hV 35; have q9 := hS.1; obtain ⟨q0, q1⟩ := hS.2.1.two; obtain ⟨q2, q3⟩ := hS.2.2.1.two; go_simp; exact zO hK
 refine zS (fun w' hS hV K hK => ?_) ?_
 · have e35 := zQ hV 35; have e36 := zQ hV 36; have q9 := hS.1; obtain ⟨q0, q1⟩ := hS.2.1.two; obtain ⟨q2, q3⟩ := hS.2.2.1.two; go_simp; exact zO hK
 refine zS (fun w' hS hV K hK => ?_) ?_
 · have e35 := zQ hV 35; have q9 := hS.1; obtain ⟨q0, q1⟩ := hS.2.1.two; obtain ⟨q2, q3⟩ := hS.2.2.1.two; go_simp; exact zO hK
 refine zS (fun w' hS hV K hK => ?_) ?_
 · have e35 := zQ hV 35; have e37 := zQ hV 37; have e38 := zQ hV 38; have q9 := hS.1; obtain ⟨q0, q1⟩ := hS.2.1.two; obtain ⟨q2, q3⟩ := hS.2.2.1.two; go_simp; exact zO hK
 refine zS (fun w' hS hV K hK => ?_) ?_
 · have e35 := zQ hV 35; have e39 := zQ hV 39; have q9 := hS.1; obtain ⟨q0, q1⟩ := hS.2.1.two; obtain ⟨q2, q3⟩ := hS.2.2.1.two; go_simp; exact zO hK
 refine zS (fun w' hS hV K hK => ?_) ?_
 · have e35 := zQ hV 35; have e40 := zQ hV 40; have q9 := hS.1; obtain ⟨q0, q1⟩ := hS.2.1.two; obtain ⟨q2, q3⟩ := hS.2.2.1.two; go_simp; exact zO hK
 refine fun w' hS hV => ?_
 have e0 := zT hV 0
 have e1 := zT hV 1
 have e2 := zT hV 2
 have e3 := zT hV 3
 have e4 := zT hV 4
 have e5 := zT hV 5
 have e6 := zT hV 6
 have e7 := zT hV 7
 have e8 := zT hV 8
 have e9 := zT hV 9
 have e10 := zT hV 10
 have e11 := zT hV 11
 have e12 := zT hV 12
 have e13 := zT hV 13
 have e14 := zT hV 14
 have e15 := zT hV 15
 have e16 := zT hV 16
 have e17 := zT hV 17
 have e18 := zT hV 18
 have e19 := zT hV 19
 have e20 := zT hV 20
 have e21 := zT hV 21
 have e22 := zT hV 22
 have e23 := zT hV 23
 have e24 := zT hV 24
 have e25 := zT hV 25
 have e26 := zT hV 26
 have e27 := zT hV 27
 have e28 := zT hV 28
 have e29 := zT hV 29
 have e30 := zT hV 30
 have e31 := zT hV 31
 have e32 := zT hV 32
 have e33 := zT hV 33
 have e34 := zT hV 34
 have e35 := zT hV 35
 have e36 := zT hV 36
 have e37 := zT hV 37
 have e38 := zT hV 38
 have e39 := zT hV 39
 have e40 := zT hV 40
 have e41 := zT hV 41
 simp only [e0, e1, e2, e3, e4, e5, e6, e7, e8, e9, e10, e11, e12, e13, e14, e15, e16, e17, e18, e19, e20, e21, e22, e23, e24, e25, e26, e27, e28, e29, e30, e31, e32, e33, e34, e35, e36, e37, e38, e39, e40, e41]
 clear e0 e1 e2 e3 e4 e5 e6 e7 e8 e9 e10 e11 e12 e13 e14 e15 e16 e17 e18 e19 e20 e21 e22 e23 e24 e25 e26 e27 e28 e29 e30 e31 e32 e33 e34 e35 e36 e37 e38 e39 e40 e41
 refine wpAny_done (by kernel_rfl) ?_ _
 have hb9 := hS.2.2.2
 go_wp2
 go_ret
 exact ⟨rfl, hb9⟩
theorem isIsometry_any (P : Int) (A : Option Addr) (n c : Nat) (sq : List Int) (D : Option Addr) (r d : Nat) (M : List (List Int)) (m : Nat) (w : World) (hsp : isSp P sq = true) (hr0 : 0 < r) (hr : r ≤ 16) (hm1 : 1 ≤ m) (hm : m ≤ 16) (ha : Rd w A n (ints sq)) (hd : RdII w D r M) (hM : Rect m M) :
    Calls Tryz.prog 120 #[.agg #[.int .i64 P, .slice A n c], .agg #[.int .i64 P, .slice A n c], .slice D r d] w fun e w' => e = .returned (.bool (isoB P sq M)) ∧ Below w.heap.size w w' := by
 have hsl := ha.lenI
 obtain ⟨HP, hd1, hd2, hnum⟩ := isSp_dim hsp
 obtain ⟨hp3, hp2⟩ := isP_ge HP
 have hl := hd.len
 have e := frB_rect (P := P) (n := sq.length) hM (by omega)
 rw [hl, hsl] at e
 cases hb : (M.all fun r => nums P r)
 · rw [is_frame (by rw [hsl, e, hb]; rfl)]
   exact isIsometry_0 P A n c sq D r d M m w (by omega) hp2 hr0 hr hm1 hm hd hM hb


 · by_cases h1 : r = n
   · by_cases h2 : m = n
     · subst h1
       subst h2
       exact isIsometry_sq P A m c sq D d M w HP (by omega) (by omega) ha (nums_numsL hnum) hd (hM.tab hb)
     · rw [is_frame (by rw [hsl, e, hb, decide_eq_true h1, decide_eq_false h2]; rfl)]
       exact isIsometry_2 P A n c sq D r d M m w (by omega) hp2 hr0 hr hm1 hm hd hM hb h1 h2
   · rw [is_frame (by rw [hsl, e, hb, decide_eq_false h1]; rfl)]
     exact isIsometry_1 P A n c sq D r d M m w (by omega) hp2 hr0 hr hm1 hm hd hM hb h1
/-- The code of a regular space and an isometry. -/
def codeO (P : Int) (sq : List Int) (M : List (List Int)) : Int := if isSp P sq then (if regB sq then (if isoB P sq M then 0 else 2) else 5) else 1
theorem codeO_mk {P : Int} {sq : List Int} {M : List (List Int)} (h1 : isSp P sq = true) (h2 : regB sq = true) (h3 : isoB P sq M = true) : codeO P sq M = 0 := by
 unfold codeO; rw [if_pos h1, if_pos h2, if_pos h3]
theorem isoB_frame {P : Int} {sq : List Int} {M : List (List Int)} (h : isoB P sq M = true) : M.length = sq.length ∧ Tab P sq.length M := by
 unfold isoB at h
 rw [Bool.and_eq_true] at h
 exact frB_iff.1 h.1
set_option maxHeartbeats 1600000 in
set_option maxRecDepth 8000 in
theorem checkOrthogonal_any (P : Int) (A : Option Addr) (n c : Nat) (sq : List Int) (D : Option Addr) (r d : Nat) (M : List (List Int)) (m : Nat) (w : World) (hn : n ≤ 1048576) (hr0 : 0 < r) (hr : r ≤ 16) (hm1 : 1 ≤ m) (hm : m ≤ 16) (ha : Rd w A n (ints sq)) (hd : RdII w D r M) (hM : Rect m M) :
    Calls Tryz.prog 74 #[.agg #[.int .i64 P, .slice A n c], .slice D r d] w fun e w' => e = .returned (.int .i64 (codeO P sq M)) ∧ Below w.heap.size w w' := by
 have hB0 : Below w.heap.size w (w.alloc (.cells #[.int .i64 P, .slice A n c] 26)) := zG.alloc (Nat.le_refl _) _
 have k0 : Blk (w.alloc (.cells #[.int .i64 P, .slice A n c] 26)) w.heap.size 26 #[.int .i64 P, .slice A n c] := Blk.new _ _ _
 have his := IsSpace_any P A n c sq (w.alloc (.cells #[.int .i64 P, .slice A n c] 26)) (by omega) (ha.below hB0)
 have hrg := Lib.hid fun w' (h : Below w.heap.size w w') => regular_any P A n c sq w' (by omega) (ha.below h)
 cases h1 : isSp P sq
 · rw [h1] at his
   obtain ⟨V, hV⟩ : ∃ V, V = codeO P sq M := ⟨_, rfl⟩
   rw [← hV]
   obtain rfl : V = 1 := hV.trans (by unfold codeO; rw [h1]; rfl)
   clear hV h1 hM hrg hd
   go_enter Tryz.func74, Tryz.ntmps74
   obtain ⟨q0, q1⟩ := k0.two
   go_wp2_with fail
   refine his.mono ?_
   rintro e w2 ⟨rfl, hb2⟩
   have hB2 := hB0.trans (hb2.mono hB0.size)
   have k2 := k0.below hb2 k0.lt
   clear q0 q1
   go_wp2
   go_ret
   exact ⟨rfl, hB2⟩
 · rw [h1] at his
   have hiso := Lib.hid fun w' (h : Below w.heap.size w w') => isIsometry_any P A n c sq D r d M m w' h1 hr0 hr hm1 hm (ha.below h) (hd.below h) hM
   cases h2 : regB sq
   · rw [h2] at hrg
     obtain ⟨V, hV⟩ : ∃ V, V = codeO P sq M := ⟨_, rfl⟩
     rw [← hV]
     obtain rfl : V = 5 := hV.trans (by unfold codeO; rw [h1, h2]; rfl)
     clear hV h1 h2 hM hd hiso
     go_enter Tryz.func74, Tryz.ntmps74
     obtain ⟨q0, q1⟩ := k0.two
     go_wp2_with fail
     refine his.mono ?_
     rintro e w2 ⟨rfl, hb2⟩
     have hB2 := hB0.trans (hb2.mono hB0.size)
     have k2 := k0.below hb2 k0.lt
     clear q0 q1
     obtain ⟨q0, q1⟩ := k2.two
     go_wp2_with fail
     refine (hrg.out w2 hB2).mono ?_
     rintro e w3 ⟨rfl, hb3⟩
     have hB3 := hB2.trans (hb3.mono hB2.size)
     have k3 := k2.below hb3 k2.lt
     clear q0 q1
     go_wp2
     go_ret
     exact ⟨rfl, hB3⟩
   · rw [h2] at hrg
     cases h3 : isoB P sq M
     · rw [h3] at hiso
       obtain ⟨V, hV⟩ : ∃ V, V = codeO P sq M := ⟨_, rfl⟩
       rw [← hV]
       obtain rfl : V = 2 := hV.trans (by unfold codeO; rw [h1, h2, h3]; rfl)
       clear hV h1 h2 h3 hM hd
       go_enter Tryz.func74, Tryz.ntmps74
       obtain ⟨q0, q1⟩ := k0.two
       go_wp2_with fail
       refine his.mono ?_
       rintro e w2 ⟨rfl, hb2⟩
       have hB2 := hB0.trans (hb2.mono hB0.size)
       have k2 := k0.below hb2 k0.lt
       clear q0 q1
       obtain ⟨q0, q1⟩ := k2.two
       go_wp2_with fail
       refine (hrg.out w2 hB2).mono ?_
       rintro e w3 ⟨rfl, hb3⟩
       have hB3 := hB2.trans (hb3.mono hB2.size)
       have k3 := k2.below hb3 k2.lt
       clear q0 q1
       obtain ⟨q0, q1⟩ := k3.two
       go_wp2_with fail
       refine (hiso.out w3 hB3).mono ?_
       rintro e w4 ⟨rfl, hb4⟩
       have hB4 := hB3.trans (hb4.mono hB3.size)
       have k4 := k3.below hb4 k3.lt
       clear q0 q1
       go_wp2
       go_ret
       exact ⟨rfl, hB4⟩
     · rw [h3] at hiso
       obtain ⟨V, hV⟩ : ∃ V, V = codeO P sq M := ⟨_, rfl⟩
       rw [← hV]
       obtain rfl : V = 0 := hV.trans (by unfold codeO; rw [h1, h2, h3]; rfl)
       clear hV h1 h2 h3 hM hd
       go_enter Tryz.func74, Tryz.ntmps74
       obtain ⟨q0, q1⟩ := k0.two
       go_wp2_with fail
       refine his.mono ?_
       rintro e w2 ⟨rfl, hb2⟩
       have hB2 := hB0.trans (hb2.mono hB0.size)
       have k2 := k0.below hb2 k0.lt
       clear q0 q1
       obtain ⟨q0, q1⟩ := k2.two
       go_wp2_with fail
       refine (hrg.out w2 hB2).mono ?_
       rintro e w3 ⟨rfl, hb3⟩
       have hB3 := hB2.trans (hb3.mono hB2.size)
       have k3 := k2.below hb3 k2.lt
       clear q0 q1
       obtain ⟨q0, q1⟩ := k3.two
       go_wp2_with fail
       refine (hiso.out w3 hB3).mono ?_
       rintro e w4 ⟨rfl, hb4⟩
       have hB4 := hB3.trans (hb4.mono hB3.size)
       have k4 := k3.below hb4 k3.lt
       clear q0 q1
       go_wp2
       go_ret
       exact ⟨rfl, hB4⟩
set_option maxHeartbeats 1600000 in
set_option maxRecDepth 8000 in
theorem IsOrthogonal_ok (P : Int) (A : Option Addr) (n c : Nat) (sq : List Int) (D : Option Addr) (d : Nat) (M : List (List Int)) (w : World) (hsp : isSp P sq = true) (hreg : regB sq = true) (ha : Rd w A n (ints sq)) (hd : RdII w D n M) (hiso : isoB P sq M = true) :
    Calls Tryz.prog 36 #[.agg #[.int .i64 P, .slice A n c], .slice D n d] w fun e w' => e = .returned (.tuple #[.bool true, .int .i64 0]) ∧ Below w.heap.size w w' := by
 have hB0 : Below w.heap.size w (w.alloc (.cells #[.int .i64 P, .slice A n c] 26)) := zG.alloc (Nat.le_refl _) _
 have k0 : Blk (w.alloc (.cells #[.int .i64 P, .slice A n c] 26)) w.heap.size 26 #[.int .i64 P, .slice A n c] := Blk.new _ _ _
 have hsl := ha.lenI
 obtain ⟨HP, hd1, hd2, hnum⟩ := isSp_dim hsp
 obtain ⟨hp3, hp2⟩ := isP_ge HP
 obtain ⟨hl, hT⟩ := isoB_frame hiso
 rw [hsl] at hd1 hd2 hl hT
 have his := IsSpace_any P A n c sq (w.alloc (.cells #[.int .i64 P, .slice A n c] 26)) (by omega) (ha.below hB0)
 rw [hsp] at his
 have hrg := Lib.hid fun w' (h : Below w.heap.size w w') => regular_any P A n c sq w' (by omega) (ha.below h)
 rw [hreg] at hrg
 have hii := Lib.hid fun w' (h : Below w.heap.size w w') => isIsometry_any P A n c sq D n d M n w' hsp hd1 (by omega) hd1 (by omega) (ha.below h) (hd.below h) (Rect.of_tab hT)
 rw [hiso] at hii
 clear hsp hreg hiso hT hl hsl hnum HP
 go_enter Tryz.func36, Tryz.ntmps36
 obtain ⟨q0, q1⟩ := k0.two
 go_wp2_with fail
 refine his.mono ?_
 rintro e w2 ⟨rfl, hb2⟩
 have hB2 := hB0.trans (hb2.mono hB0.size)
 have k2 := k0.below hb2 k0.lt
 clear q0 q1
 obtain ⟨q0, q1⟩ := k2.two
 go_wp2_with fail
 refine (hrg.out w2 hB2).mono ?_
 rintro e w3 ⟨rfl, hb3⟩
 have hB3 := hB2.trans (hb3.mono hB2.size)
 have k3 := k2.below hb3 k2.lt
 clear q0 q1
 obtain ⟨q0, q1⟩ := k3.two
 go_wp2_with fail
 refine (hii.out w3 hB3).mono ?_
 rintro e w4 ⟨rfl, hb4⟩
 have hB4 := hB3.trans (hb4.mono hB3.size)
 have k4 := k3.below hb4 k3.lt
 clear q0 q1
 go_wp2
 go_ret2
 exact ⟨rfl, hB4⟩
set_option maxHeartbeats 1600000 in
set_option maxRecDepth 8000 in
theorem IsProper_ok (P : Int) (A : Option Addr) (n c : Nat) (sq : List Int) (D : Option Addr) (d : Nat) (M : List (List Int)) (w : World) (hsp : isSp P sq = true) (hreg : regB sq = true) (ha : Rd w A n (ints sq)) (hd : RdII w D n M) (hiso : isoB P sq M = true) :
    Calls Tryz.prog 43 #[.agg #[.int .i64 P, .slice A n c], .slice D n d] w fun e w' => e = .returned (.tuple #[.bool (detL P M == 1), .int .i64 0]) ∧ Below w.heap.size w w' := by
 have hB0 : Below w.heap.size w (w.alloc (.cells #[.int .i64 P, .slice A n c] 26)) := zG.alloc (Nat.le_refl _) _
 have k0 : Blk (w.alloc (.cells #[.int .i64 P, .slice A n c] 26)) w.heap.size 26 #[.int .i64 P, .slice A n c] := Blk.new _ _ _
 have hsl := ha.lenI
 obtain ⟨HP, hd1, hd2, hnum⟩ := isSp_dim hsp
 obtain ⟨hp3, hp2⟩ := isP_ge HP
 obtain ⟨hl, hT⟩ := isoB_frame hiso
 rw [hsl] at hd1 hd2 hl hT
 have hck := checkOrthogonal_any P A n c sq D n d M n (w.alloc (.cells #[.int .i64 P, .slice A n c] 26)) (by omega) hd1 (by omega) hd1 (by omega) (ha.below hB0) (hd.below hB0) (Rect.of_tab hT)
 rw [codeO_mk hsp hreg hiso] at hck
 have hde := Lib.hid fun w' (h : Below w.heap.size w w') => determinant_any P D n d M w' HP hd1 (by omega) (hd.below h) hT
 have hfi := Lib.hid fun w' => field_any P A n c w'
 obtain ⟨z, hz⟩ : ∃ z, z = detL P M := ⟨_, rfl⟩
 rw [← hz] at hde ⊢
 obtain ⟨b, hb⟩ : ∃ b, b = (z == 1) := ⟨_, rfl⟩
 rw [← hb]
 have hb9 : (z == 1) = b := hb.symm
 clear hsp hreg hiso hT hl hsl hnum HP hz hb
 go_enter Tryz.func43, Tryz.ntmps43
 obtain ⟨q0, q1⟩ := k0.two
 go_wp2_with fail
 refine hck.mono ?_
 rintro e w2 ⟨rfl, hb2⟩
 have hB2 := hB0.trans (hb2.mono hB0.size)
 have k2 := k0.below hb2 k0.lt
 clear q0 q1
 obtain ⟨q0, q1⟩ := k2.two
 go_wp2_with fail
 refine (hfi.out _).mono ?_
 rintro e w3 ⟨rfl, hb3⟩
 have hB3 := hB2.trans (hb3.mono hB2.size)
 go_wp2_with fail
 refine (hde.out w3 hB3).mono ?_
 rintro e w4 ⟨rfl, hb4⟩
 go_wp2
 go_ret2
 exact ⟨rfl, hB3.trans (hb4.mono hB3.size)⟩
set_option maxHeartbeats 1600000 in
set_option maxRecDepth 8000 in
theorem refCol_any (g gx : Nat) (P : Int) (A : Option Addr) (n c : Nat) (sq : List Int) (U : Option Addr) (cu : Nat) (u : List Int) (Y : Option Addr) (cy : Nat) (v : List Int) (w : World) (HP : isP P = true) (hn : n ≤ 6) (ha : Rd w A n (ints sq)) (hs : NumsL P sq) (hx : Rd w U n (ints u)) (hu : NumsL P u) (hy : Rd w Y n (ints v)) (hys : NumsL P v) (hne : ¬ pairL P sq u u = 0) (kg : Blk w g 26 #[.int .i64 P, .slice A n c]) (kx : Blk w gx 24 #[.slice U n cu]) :
    Calls Tryz.prog 254 #[.slice Y n cy, .pointer (some ⟨g, 0, none⟩), .pointer (some ⟨gx, 0, none⟩)] w fun e w' => ∃ A' c', e = .returned (.slice A' n c') ∧ MkI w w' A' n c' (rflL P sq u v) := by
 obtain ⟨q0, q1⟩ := kg.two
 have qx := kx.cell 0
 simp only [zA, zC] at qx
 have hcall := reflected_any P A n c sq U cu u Y cy v w HP hn ha hs hx hu hy hys hne
 go_enter Tryz.func254, Tryz.ntmps254
 go_wp2_with fail
 refine hcall.mono ?_
 rintro e w2 ⟨A2, c2, rfl, hM⟩
 go_wp2
 go_ret
 exact ⟨_, _, rfl, hM⟩
set_option maxHeartbeats 1600000 in
set_option maxRecDepth 8000 in
theorem reflection_any (P : Int) (A : Option Addr) (n c : Nat) (sq : List Int) (U : Option Addr) (cu : Nat) (u : List Int) (w : World) (HP : isP P = true) (hn : n ≤ 6) (h0 : 0 < n) (ha : Rd w A n (ints sq)) (hs : NumsL P sq) (hx : Rd w U n (ints u)) (hu : NumsL P u) (hne : ¬ pairL P sq u u = 0) :
    Calls Tryz.prog 198 #[.agg #[.int .i64 P, .slice A n c], .slice U n cu] w fun e w' => ∃ A' c', e = .returned (.slice A' n c') ∧ MkII w w' A' n c' (rmatL P sq n u) := by
 obtain ⟨hp3, hp2⟩ := isP_ge HP
 have hB0 : Below w.heap.size w (w.alloc (.cells #[.int .i64 P, .slice A n c] 26)) := zG.alloc (Nat.le_refl _) _
 have k0 : Blk (w.alloc (.cells #[.int .i64 P, .slice A n c] 26)) w.heap.size 26 #[.int .i64 P, .slice A n c] := Blk.new _ _ _
 have hB1 : Below w.heap.size w ((w.alloc (.cells #[.int .i64 P, .slice A n c] 26)).alloc (.cells #[.slice U n cu] 24)) := hB0.alloc (by simp) _
 have k1 : Blk ((w.alloc (.cells #[.int .i64 P, .slice A n c] 26)).alloc (.cells #[.slice U n cu] 24)) w.heap.size 26 #[.int .i64 P, .slice A n c] := k0.alloc _
 have kx : Blk ((w.alloc (.cells #[.int .i64 P, .slice A n c] 26)).alloc (.cells #[.slice U n cu] 24)) (w.heap.size + 1) 24 #[.slice U n cu] := Blk.newAt3 (by simp)
 have HMV := Lib.hid (matrixBy_any 254 ⟨w.heap.size, 0, none⟩ ⟨w.heap.size + 1, 0, none⟩ (fun k => rflL P sq u (unitRow n k)) (fun _ _ => by rfl) P A n c ((w.alloc (.cells #[.int .i64 P, .slice A n c] 26)).alloc (.cells #[.slice U n cu] 24)) (by omega) hn h0 (fun _ _ => ⟨by rw [rflL_len, unitRow_len], rflL_nums (by omega) _ _ _⟩)
  (fun k w' Y cy _ hb hy hcy => refCol_any w.heap.size (w.heap.size + 1) P A n c sq U cu u Y cy (unitRow n k) w' HP hn ((ha.below hB1).below hb) hs ((hx.below hB1).below hb) hu hy (unitRow_nums (by omega) n k) hne (k1.below hb k1.lt) (kx.below hb kx.lt)))
 obtain ⟨q0, q1⟩ := k1.two
 have qx := kx.cell 0
 simp only [zA, zC] at qx
 clear k0 kx hne
 go_enter Tryz.func198, Tryz.ntmps198
 go_wp2_with fail
 refine HMV.out.mono ?_
 rintro e w4 ⟨A4, c4, rfl, hM⟩
 go_wp2
 go_ret
 exact ⟨_, _, rfl, hM.after hB1⟩
section
variable {P : Program}
/-- A whole list is appended to a row of the call's own. -/
theorem wpList_appAll {ops : Array Oper} {rest : List Oper} {o : Oper} {a : Act} {Q : Exit → Act → World → Prop} (w0 wr : World)
    (hgd : o.guard = none) (s x : Operand) (ho : o.op = .call { callee := .builtin .append, args := #[s, x], argTypes := #[24, 24] })
    (A : Option Addr) (n c : Nat) (xs : List Int) (B : Option Addr) (m d : Nat) (ys : List Int) (hM : MkI w0 wr A n c xs) (hY : Rd wr B m (ints ys)) (h0 : 0 < m) (hn : n ≤ 65536) (hm : m ≤ 65536)
    (hs : a.eval s = .slice A n c) (hx : a.eval x = .slice B m d)
    (h : ∀ A' c' w', MkI w0 w' A' (n + m) c' (xs ++ ys) → wr.grownBy w' (Value.slice A n c).ownBlock → wpList Tryz.prog ops Q rest (a.put o.dst (.slice A' (n + m) c')) w') :
    wpList Tryz.prog ops Q (o :: rest) a wr := by
 obtain ⟨i, hi, h1, h2, h3⟩ := info_parts info_i
 obtain ⟨b1, b2⟩ := bound_of (show n + m ≤ 1099511627776 by omega)
 have hyl : ys.length = m := by have := hY.1; rwa [ints_length] at this
 obtain ⟨g, o', rfl, hc⟩ := hY.2 h0
 refine wpList_append_own_at wr hgd s x 24 ho w0.heap.size 2 i _ 1 8 Tryz.underlying24 hi h1 h2 h3 rfl (by omega) (.slice A n c) n (ints xs) hs hM.2 ⟨g, o', none⟩ m d (ints ys) hx (by rw [ints_length, hyl, Nat.mul_one]) (fun j u hu => by rw [Addr.add_lit]; exact hc j u hu) (by intro u hu; obtain ⟨y, _, rfl⟩ := List.mem_map.1 hu; rfl) (by simp only [maxLen]; omega) (by have := b2 8 (by omega); omega) hM.1.size ?_
 intro v' w' hown hg _ _
 have hb' : Below w0.heap.size w0 w' := hM.1.grown hg hM.1.size (fun k hk => (hM.2.lt k hk).1)
 have e : ints xs ++ ints ys = ints (xs ++ ys) := by unfold ints; rw [List.map_append]
 rw [e] at hown
 rcases hown.2 with ⟨_, h0⟩ | ⟨g, cap, cur, rfl, hr⟩
 · omega
 · exact h _ _ _ ⟨hb', hown⟩ hg
end
set_option maxHeartbeats 800000 in
set_option maxRecDepth 8000 in
theorem grow_any (n : Nat) (w : World) (h0 : 0 < n) (hn : n ≤ 65536) :
    Calls Tryz.prog 280 #[.slice none 0 0, .int .i64 n] w fun e w' => ∃ A c, e = .returned (.slice A 0 c) ∧ MkI w w' A 0 c [] := by
 obtain ⟨i, hi, h1, h2, h3⟩ := info_parts info_i
 have hrz := fun ty => Lib.run_append_nil_zeros (P := Tryz.prog) w 24 3 ty 2 i (.int .i64 0) .i64 .i64 Tryz.underlying24 Tryz.underlying3 hi h1 n h0 (by omega) (by omega) (by rw [h3]; omega)
 have hge := grownCap_ge w n 0 2
 have hle := grownCap_le_maxLen w n 0 2 (by simp only [maxLen]; omega)
 obtain ⟨G, hG⟩ : ∃ G, G = grownCap w n 0 2 := ⟨_, rfl⟩
 rw [← hG] at hrz hge hle
 obtain ⟨Z, hZ⟩ : ∃ Z, Z = Builtin.zeroCells (Value.int .i64 0).cells n ++ Builtin.zeroCells (Value.int .i64 0).cells (G - n) := ⟨_, rfl⟩
 rw [← hZ] at hrz
 have hZs : Z.size = G := by rw [hZ]; simp [size_zeroCells, Value.cells]; omega
 have hO := World.ownsRow_made (base := w.heap.size) (e := 2) (size := 1) w.drew Z G (Nat.le_refl _) hle (by omega)
 have hM : MkI w (w.drew.alloc (.cells Z 2)) (some ⟨w.heap.size, 0, none⟩) 0 G [] := ⟨(⟨rfl, rfl, rfl, Nat.le_refl _, fun _ _ => rfl⟩ : Below w.heap.size w w.drew).alloc (Nat.le_refl _) _, hO⟩
 have hG2 : G ≤ 9223372036854775807 := by unfold maxLen at hle; omega
 have t1 : ¬ ((n : Int) < 0) := by omega
 clear hZ hG hZs hO hle
 go_enter Tryz.func280, Tryz.ntmps280
 go_wp2_with (at_builtin; refine Lib.wpList_append_run _ rfl _ _ _ _ rfl _ _ rfl rfl _ _ (hrz _) ?_)
 go_ret
 exact ⟨_, _, rfl, hM⟩
theorem flatten_step {M : List (List Int)} {k : Nat} (h : k < M.length) : (M.take (k + 1)).flatten = (M.take k).flatten ++ M[k] := by
 rw [List.take_succ_eq_append_getElem h, List.flatten_append, List.flatten_cons, List.flatten_nil, List.append_nil]
theorem flatten_le {M : List (List Int)} {b : Nat} (h : ∀ r ∈ M, r.length ≤ b) : ∀ k, (M.take k).flatten.length ≤ k * b := by
 intro k
 induction k with
 | zero => simp
 | succ k ih =>
  by_cases hk : k < M.length
  · rw [flatten_step hk, List.length_append]
    have := h M[k] (List.getElem_mem hk)
    rw [Nat.add_mul]; omega
  · rw [List.take_of_length_le (by omega)] at ih ⊢
    rw [Nat.add_mul]; omega
set_option maxHeartbeats 1600000 in
set_option maxRecDepth 8000 in
theorem concat_any (A : Option Addr) (n c : Nat) (M : List (List Int)) (w : World) (h0 : 0 < n) (hn : n ≤ 16) (ha : RdII w A n M) (hr : ∀ r ∈ M, 0 < r.length ∧ r.length ≤ 1000) :
    Calls Tryz.prog 267 #[.slice A n c] w fun e w' => ∃ A' c', e = .returned (.slice A' M.flatten.length c') ∧ MkI w w' A' M.flatten.length c' M.flatten := by
 have HR := Lib.hid hr
 have HL := Lib.hid ha.len
 have HF := Lib.hid (flatten_le (M := M) (b := 1000) fun r h => (hr r h).2)
 have hpos : 0 < M.flatten.length := by
  cases M with
  | nil => have := ha.len; simp at this; omega
  | cons r M => rw [List.flatten_cons, List.length_append]; have := (hr r (by simp)).1; omega
 have hle : M.flatten.length ≤ 16000 := by
  have := HF.out n
  rw [List.take_of_length_le (by rw [HL.out]; omega)] at this
  omega
 obtain ⟨T, hT⟩ : ∃ T, T = M.flatten.length := ⟨_, rfl⟩
 have HT := Lib.hid hT
 rw [← hT] at hpos hle ⊢
 have hgr := fun w' => grow_any T w' hpos (by omega)
 clear hr hT
 go_enter Tryz.func267, Tryz.ntmps267
 go_wp2
 go_loopw [3, 11] (fun s i wr => ∃ (k z : Nat), k ≤ n ∧ i = .int .i64 k ∧ s = .int .i64 z ∧ z = (M.take k).flatten.length ∧ w = wr) (fun _ i _ => n - (intOf i).toNat)
 case atStart => exact ⟨0, 0, by omega, rfl, rfl, rfl, rfl⟩
 case round =>
  obtain ⟨k, z, hk, rfl, rfl, hz, rfl⟩ := hrel
  have HZ := Lib.hid hz
  have hz2 := HF.out k
  rw [← hz] at hz2
  have hz3 : z ≤ 16000 := by omega
  clear hz hz2
  by_cases hlt : k < n
  · obtain ⟨g, o, rfl, hx, A1, c1, hc1, hr1, hcap⟩ := ha.at_ hlt
    have hl := (HR.out M[k] (List.getElem_mem hx)).2
    have HS : Hid ((M.take (k + 1)).flatten.length = z + M[k].length) := Lib.hid (by rw [flatten_step hx, List.length_append, ← HZ.out])
    obtain ⟨q, hq⟩ : ∃ q, q = M[k].length := ⟨_, rfl⟩
    rw [← hq] at hc1 hl HS
    clear hr1 hcap hq
    have e1 : IntKind.i64.wrap ((z : Int) + (q : Int)) = ((z + q : Nat) : Int) := by rw [i64_fit _ (by omega) (by omega)]; omega
    have t1 : ¬ (((z + q : Nat) : Int) < 0) := by omega
    go_wp2
    go_roundw
    case rel => exact ⟨k + 1, z + q, by omega, by go_num, rfl, HS.out.symm, by first | rfl | trivial⟩
    case measure => simp [intOf]; omega
  · obtain rfl : k = n := by omega
    obtain rfl : z = T := by rw [HZ.out, HT.out, List.take_of_length_le (by rw [HL.out]; omega)]
    go_wp2_with fail
    refine (hgr _).mono ?_
    rintro e w1 ⟨A0, c0, rfl, hM0⟩
    go_wp2
    clear hgr
    go_loopw [6, 27] (fun s i wr => ∃ (j z : Nat) (B : Option Addr) (d : Nat), j ≤ k ∧ i = .int .i64 j ∧ s = .slice B z d ∧ z = (M.take j).flatten.length ∧ MkI w wr B z d (M.take j).flatten) (fun _ i _ => k - (intOf i).toNat)
    case atStart => exact ⟨0, 0, _, _, by omega, rfl, rfl, rfl, by simpa using hM0⟩
    case round =>
     obtain ⟨j, y, B, d, hj, rfl, rfl, hy, hM⟩ := hrel
     have HY := Lib.hid hy
     have hy2 := HF.out j
     rw [← hy] at hy2
     have hy3 : y ≤ 16000 := by omega
     clear hy hy2
     by_cases hjt : j < k
     · have hb1 : Below w.heap.size w wr := hM.b
       obtain ⟨g, o, rfl, hx, A1, c1, hc1, hr1, hcap⟩ := (ha.below hb1).at_ hjt
       obtain ⟨hl0, hl⟩ := HR.out M[j] (List.getElem_mem hx)
       have HS : Hid ((M.take (j + 1)).flatten = (M.take j).flatten ++ M[j]) := Lib.hid (flatten_step hx)
       obtain ⟨q, hq⟩ : ∃ q, q = M[j].length := ⟨_, rfl⟩
       rw [← hq] at hc1 hl hl0 hr1
       have HM := Lib.hid hM
       have HQ := Lib.hid hq
       have HR1 := Lib.hid hr1
       clear hM hq hr1 hcap hM0
       go_wp2_with (at_builtin; refine wpList_appAll w wr rfl _ _ rfl B y d _ A1 q c1 _ HM.out HR1.out hl0 (by omega) (by omega) rfl rfl ?_; intro A' c' w' hM' _)
       go_roundw
       case rel => exact ⟨j + 1, y + q, A', c', by omega, by go_num, rfl, by rw [HS.out, List.length_append, ← HY.out, ← HQ.out], by rw [HS.out]; exact hM'⟩
       case measure => simp [intOf]; omega
     · obtain rfl : j = k := by omega
       have e9 : M.take j = M := List.take_of_length_le (by rw [HL.out]; omega)
       rw [e9] at hM
       obtain rfl : y = z := by rw [HY.out, HT.out, e9]
       go_wp2
       go_ret
       exact ⟨_, _, rfl, hM⟩
end Go.Proofs.YtmkjdpnoloofjaaGreat
