/-
  LawFnMinimalPolynomials: part 9 of the texts that the proof needs. No condition.
-/
import Derived.Test.YtmkjdpnoloofjaaGreatM8
namespace Go.Proofs.YtmkjdpnoloofjaaGreat
open Go.RowKit
set_option maxHeartbeats 12800000 in
set_option maxRecDepth 8000 in
theorem characteristic_any (p : Int) (A : Option Addr) (n c : Nat) (M : List (List Int)) (w : World) (HP : isP p = true) (h0 : 0 < n) (hn : n ≤ 16) (ha : RdII w A n M) (hT : Tab p n M) :
    Calls Tryz.prog 167 #[.int .i64 p, .slice A n c] w fun e w' => ∃ (A' : Option Addr) (c' : Nat), e = .returned (.slice A' (n + 1) c') ∧ MkI w w' A' (n + 1) c' (charL p M) := by
 have hML := ha.len
 obtain ⟨hp3, hp2⟩ := isP_ge HP
 have hp : 2 ≤ p := by omega
 have hp0 : 0 < p := by omega
 have HPP := Lib.hid HP
 have HT := Lib.hid (And.intro (show Tab p M.length M by rw [hML]; exact hT) hML)
 have hmk := make_i (P := Tryz.prog) 24 2 Tryz.underlying24 info_i (n + 1) (by omega)
 rw [show (((n + 1 : Nat)) : Int) = (n : Int) + 1 by omega] at hmk
 have hMo := Mk.made (E := 2) (n := n + 1) (z := .int .i64 0) (Below.refl w.heap.size w) (by simp only [maxLen]; omega)
 rw [ints_replicate] at hMo
 have hB0 : Below w.heap.size w (w.alloc (.cells (madeCells #[.int .i64 0] (n + 1)) 2)) := (Below.refl _ w).alloc (Nat.le_refl _) _
 have hclone := cloneRows_any p A n c M n (w.alloc (.cells (madeCells #[.int .i64 0] (n + 1)) 2)) (by omega) (by omega) (ha.below hB0) hT
 clear hT HP ha hML hB0
 go_enter Tryz.func167, Tryz.ntmps167
 go_wp2_with fail
 refine hclone.mono ?_
 rintro e w2 ⟨A1, c1, rfl, hM1⟩
 obtain ⟨w1, hw1⟩ : ∃ W, W = w.alloc (.cells (madeCells #[.int .i64 0] (n + 1)) 2) := ⟨_, rfl⟩
 have hblk0 := Blk.new w 2 (madeCells #[.int .i64 0] (n + 1))
 rw [← hw1] at hM1 hMo hblk0
 have HBLK := Lib.hid hblk0
 clear hblk0
 have HMO := Lib.hid hMo
 clear hmk hclone hw1 hMo
 obtain ⟨g, rfl, -⟩ := hM1.at_ h0
 have W0 : wrap64 ((n : Int) - 1) = (n : Int) - 1 := by unfold wrap64; omega
 go_wp2
 go_loopw [8] (fun q wr => ∃ kk : Nat, (kk + 1 < n ∨ kk = 0) ∧ q = .int .i64 ((kk + 1 : Nat) : Int) ∧ MkII w1 wr (some ⟨g, 0, none⟩) n c1 (hesTo p M kk)) (fun q _ => n - (intOf q).toNat)
 case atStart => exact ⟨0, Or.inr rfl, rfl, hM1⟩
 case round =>
  obtain ⟨kk, hkk, rfl, hM⟩ := hrel
  clear hM1
  obtain ⟨k, hk⟩ : ∃ k, k = kk + 1 := ⟨_, rfl⟩
  rw [← hk]
  obtain ⟨L, hL⟩ : ∃ L, L = hesTo p M kk := ⟨_, rfl⟩
  have HTT : Hid (Tab p n L ∧ L.length = n) := Lib.hid (by
   have h1 := hesTo_tab hp0 HT.out.1 kk (by rw [HT.out.2]; exact hkk)
   rw [← hL, HT.out.2] at h1
   exact h1)
  rw [← hL] at hM
  have HL := Lib.hid hL
  have HK := Lib.hid hk
  have HM := Lib.hid hM
  clear hL hM
  by_cases hlk : (k : Int) < (n : Int) - 1
  · have W1 : wrap64 ((k : Int) - 1) = (kk : Int) := by rw [hk]; unfold wrap64; omega
    have W1i : IntKind.i64.wrap ((k : Int) - 1) = (kk : Int) := by rw [i64_fit _ (by omega) (by omega)]; omega
    have hk1n : k + 1 < n := by omega
    have hkn : k < n := by omega
    have hkkn : kk < n := by omega
    have tk : decide ((k : Int) < (n : Int) - 1) = true := by simp; exact hlk
    clear hk hlk hkk
    go_wp2
    go_loop [9] (fun q => ∃ i : Nat, k ≤ i ∧ i ≤ n ∧ q = .int .i64 i ∧ Hid (piv L kk (n - i) i = pivOf L kk k)) (fun q => n - (intOf q).toNat)
    case atStart => exact ⟨k, by omega, by omega, rfl, Lib.hid (by unfold pivOf; rw [HTT.out.2])⟩
    case round =>
     obtain ⟨i, hi1, hi2, rfl, hi3⟩ := hrel
     by_cases hli : i < n
     · obtain ⟨gi, ci, hci, hri, hli2, hni, hce, hcf⟩ := HM.out.rowAt HTT.out.1 (by omega) hli
       have hcx := hce kk hkkn
       obtain ⟨xe, hxe⟩ : ∃ x, x = ent L i kk := ⟨_, rfl⟩
       rw [← hxe] at hcx
       have HX := Lib.hid hxe
       have HPV : Hid (piv L kk (n - i) i = if ent L i kk = 0 then piv L kk (n - (i + 1)) (i + 1) else i) := Lib.hid (by
        rw [show n - i = (n - (i + 1)) + 1 by omega]; rfl)
       cases hz : (xe == 0)
       · have hne : xe ≠ 0 := by simpa using hz
         have HVP : Hid (pivOf L kk k = i) := Lib.hid (by rw [← hi3.out, HPV.out, if_neg (by rw [← HX.out]; exact hne)])
         have hxb := hni.getD hp0 kk
         have HXB : Hid (0 ≤ xe ∧ xe < p) := Lib.hid (by rw [HX.out]; exact hxb)
         clear hi3 HPV hxe hxb hni hli2 hri
         have ti : ((i : Int) == (n : Int)) = false := by simp; omega
         obtain ⟨gk, ck, hck, -, -, -, -, -⟩ := HM.out.rowAt HTT.out.1 (by omega) hkn
         have HSW := Lib.hid (HM.out.swap hli hkn hci hck)
         obtain ⟨uj, hcs⟩ := HM.out.cellSet i (A1 := some ⟨gk, 0, none⟩) (m := n) (c1 := ck) hkn
         have fd := HM.out.frozen_ i
         have fj := HM.out.frozen_ k
         clear hce hcf
         go_wp2
         go_region
         obtain ⟨w3, hw3⟩ : ∃ W, W = ((wr.setCell ⟨g, i, none⟩ (.slice (some ⟨gk, 0, none⟩) n ck)).setCell ⟨g, k, none⟩ (.slice (some ⟨gi, 0, none⟩) n ci)).drew := ⟨_, rfl⟩
         have hM2 : MkII w1 w3 (some ⟨g, 0, none⟩) n c1 (swapL L i k) := by rw [hw3]; exact HSW.out.below (zG.drew)
         rw [← hw3]
         clear hw3 HSW hcs fd fj hci hck hcx hz
         obtain ⟨N, hN⟩ : ∃ N, N = swapL L i k := ⟨_, rfl⟩
         have HTN : Hid (Tab p n N ∧ N.length = n) := Lib.hid (by rw [hN]; exact ⟨swapL_tab HTT.out.1 (by rw [HTT.out.2]; exact hli) (by rw [HTT.out.2]; exact hkn), by rw [swapL_len, HTT.out.2]⟩)
         have HW : Hid (hesW L i k = rowsTo (swapR i k) N n) := Lib.hid (by unfold hesW; rw [HTT.out.2, hN])
         rw [← hN] at hM2
         have hM3 : MkII w1 w3 (some ⟨g, 0, none⟩) n c1 (rowsTo (swapR i k) N 0) := by rw [rowsTo_zero]; exact hM2
         clear hN hM2
         go_wp2
         go_loopw [68] (fun q wr => ∃ r : Nat, r ≤ n ∧ q = .int .i64 r ∧ MkII w1 wr (some ⟨g, 0, none⟩) n c1 (rowsTo (swapR i k) N r)) (fun q _ => n - (intOf q).toNat)
         case atStart => exact ⟨0, by omega, rfl, hM3⟩
         case round =>
          obtain ⟨r, hr, rfl, hM4⟩ := hrel
          clear hM3
          by_cases hlr : r < n
          · have hT4 : Tab p n (rowsTo (swapR i k) N r) := rowsTo_tab HTN.out.1 (fun x h1 h2 => swapR_ok hp0 x h1 h2) r
            obtain ⟨X, hX⟩ : ∃ X, X = rowsTo (swapR i k) N r := ⟨_, rfl⟩
            have hr4 : (rowsTo (swapR i k) N r).getD r [] = N.getD r [] := by rw [rowsTo_getD (by rw [HTN.out.2]; exact hlr), if_neg (by omega)]
            have HNX : Hid (rowsTo (swapR i k) N (r + 1) = X.set r (swapR i k (X.getD r []))) := Lib.hid (by rw [rowsTo_succ _ _ (by rw [HTN.out.2]; exact hlr), hX, hr4])
            rw [← hX] at hM4 hT4
            have hXl := hM4.len
            obtain ⟨gr, cr, hcr, -, hlr2, -, hce, hcf⟩ := hM4.rowAt hT4 (by omega) hlr
            have hci := hce i hli
            have hck := hce k hkn
            obtain ⟨vi, hvi⟩ : ∃ v, v = ent X r i := ⟨_, rfl⟩
            obtain ⟨vk, hvk⟩ : ∃ v, v = ent X r k := ⟨_, rfl⟩
            rw [← hvi] at hci
            rw [← hvk] at hck
            have fi := hcf i
            have fk := hcf k
            obtain ⟨h1, hne, -⟩ := hM4.cellSet1 hlr hcr i vk
            have hcr2 : (wr.setCell ⟨gr, i, none⟩ (.int .i64 vk)).cell? ⟨g, r, none⟩ = some (.slice (some ⟨gr, 0, none⟩) n cr) := (World.cell?_setCell_far _ _ _ _ (fun e => hne e.symm)).trans hcr
            obtain ⟨h2, -, -⟩ := h1.cellSet1 hlr hcr2 k vi
            obtain ⟨uk, huk⟩ := cell?_setCell_some (p := ⟨gr, i, none⟩) (x := .int .i64 vk) hck
            have HM5 : Hid (MkII w1 ((wr.setCell ⟨gr, i, none⟩ (.int .i64 vk)).setCell ⟨gr, k, none⟩ (.int .i64 vi)) (some ⟨g, 0, none⟩) n c1 (rowsTo (swapR i k) N (r + 1))) := Lib.hid (by
             have e : (X.set r ((X.getD r []).set i vk)).set r (((X.set r ((X.getD r []).set i vk)).getD r []).set k vi) = X.set r (swapR i k (X.getD r [])) := by
              rw [List.set_set, getD_set, if_pos ⟨rfl, by omega⟩]
              unfold swapR
              rw [hvi, hvk]; rfl
             rw [HNX.out, ← e]; exact h2)
            clear h1 h2 hne hcr2 hvi hvk hX hr4 hT4 hlr2 hce hcf hXl hM4
            go_wp2
            go_region
            obtain ⟨w5, hw5⟩ : ∃ W, W = ((wr.setCell ⟨gr, i, none⟩ (.int .i64 vk)).setCell ⟨gr, k, none⟩ (.int .i64 vi)).drew := ⟨_, rfl⟩
            have hM6 : MkII w1 w5 (some ⟨g, 0, none⟩) n c1 (rowsTo (swapR i k) N (r + 1)) := by rw [hw5]; exact HM5.out.below (zG.drew)
            rw [← hw5]
            clear hw5 HM5 hci hck huk fi fk hcr
            go_wp2
            go_roundw
            case rel => exact ⟨r + 1, by omega, by go_num, hM6⟩
            case measure => simp [intOf]; omega
          · have hrn : r = n := by omega
            rw [hrn] at hM4 ⊢
            clear hrn hlr hr
            obtain ⟨W, hW⟩ : ∃ W, W = hesW L i k := ⟨_, rfl⟩
            have hM5 : MkII w1 wr (some ⟨g, 0, none⟩) n c1 (hesRs p k W 0) := by
             show MkII w1 wr (some ⟨g, 0, none⟩) n c1 W
             rw [hW, HW.out]; exact hM4
            have HTW : Hid (Tab p n W ∧ W.length = n) := Lib.hid (by
             have h9 := hesW_tab hp0 HTT.out.1 (i := i) (k := k) (by rw [HTT.out.2]; exact hli) (by rw [HTT.out.2]; exact hkn)
             rw [← hW, HTT.out.2] at h9; exact h9)
            have HNX : Hid (hesTo p M (kk + 1) = hesRs p k W (n - (k + 1))) := Lib.hid (by
             show hesS p (kk + 1) (hesTo p M kk) = _
             rw [← HL.out]
             unfold hesS
             rw [Nat.add_sub_cancel, ← HK.out, HVP.out, HTT.out.2, if_neg (by omega), ← hW])
            clear hW hM4
            have tkr : k + 1 ≤ n := by omega
            go_wp2
            go_loopw [11] (fun q wr => ∃ j : Nat, k + 1 + j ≤ n ∧ q = .int .i64 ((k + 1 + j : Nat) : Int) ∧ MkII w1 wr (some ⟨g, 0, none⟩) n c1 (hesRs p k W j)) (fun q _ => n - (intOf q).toNat)
            case atStart => exact ⟨0, by omega, by go_num, hM5⟩
            case round =>
             obtain ⟨j, hj, rfl, hM6⟩ := hrel
             clear hM5
             obtain ⟨r, hr⟩ : ∃ r, r = k + 1 + j := ⟨_, rfl⟩
             rw [← hr] at hj ⊢
             obtain ⟨X, hX⟩ : ∃ X, X = hesRs p k W j := ⟨_, rfl⟩
             have HTX : Hid (Tab p n X ∧ X.length = n) := Lib.hid (by
              have h9 := hesRs_tab hp0 HTW.out.1 k j (by rw [HTW.out.2]; omega)
              rw [← hX, HTW.out.2] at h9; exact h9)
             have HRE : Hid (r = k + 1 + j) := Lib.hid hr
             have HXE : Hid (X = hesRs p k W j) := Lib.hid hX
             rw [← hX] at hM6
             have hkr : k < r := by omega
             clear hX hr tkr
             by_cases hlr : r < n
             · obtain ⟨gr, cr, hcr, hrr, hlr2, hnr, hcer, -⟩ := hM6.rowAt HTX.out.1 (by omega) hlr
               obtain ⟨gk, ck, hck, hrk, hlk2, hnk, hcek, -⟩ := hM6.rowAt HTX.out.1 (by omega) hkn
               have hcy := hcer kk hkkn
               have hcz := hcek kk hkkn
               have hyb : 0 ≤ ent X r kk ∧ ent X r kk < p := hnr.getD hp0 kk
               have hzb : 0 ≤ ent X k kk ∧ ent X k kk < p := hnk.getD hp0 kk
               obtain ⟨y, hy⟩ : ∃ y, y = ent X r kk := ⟨_, rfl⟩
               obtain ⟨z, hz⟩ : ∃ z, z = ent X k kk := ⟨_, rfl⟩
               rw [← hy] at hcy hyb
               rw [← hz] at hcz hzb
               have hiv := invF_small hp z
               have hmy := mul_b (a := y) (b := invF p z) (by omega) (by omega)
               have W2 := i64_small (x := y * invF p z) (by omega) (by omega)
               obtain ⟨f, hf⟩ : ∃ f, f = y * invF p z % p := ⟨_, rfl⟩
               have hfb : 0 ≤ f ∧ f < p := by rw [hf]; exact ⟨Int.emod_nonneg _ (by omega), Int.emod_lt_of_pos _ (by omega)⟩
               have HFF : Hid (f = hesF p k X r) := Lib.hid (by
                have e : k - 1 = kk := by have := HK.out; omega
                unfold hesF
                rw [e, ← hy, ← hz, hf])
               have HF := Lib.hid hf
               have HRR := Lib.hid (And.intro hrr (And.intro hlr2 hnr))
               have HRK := Lib.hid (And.intro hrk (And.intro hlk2 hnk))
               have HM6 := Lib.hid hM6
               clear hy hz hf hcer hcek hrr hrk hlr2 hlk2 hnr hnk hM6
               go_wp2
               refine wp_obs 22 [[],[],[],[1,2],[1,2,3],[],[5],[1,2,3,4,5,6],[1,2,3,4,5,6,7],[],[],[],[10,11],[10,11,12],[],[14],[10,11,12,13,14,15],[10,11,12,13,14,15,16],[9,10,11,12,13,14,15,16,17],[1,2,3,4,5,6,7,8,9,10,11,12,13,14,15,16,17,18],[0,1,2,3,4,5,6,7,8,9,10,11,12,13,14,15,16,17,18,19],[0,1,2,3,4,5,6,7,8,9,10,11,12,13,14,15,16,17,18,19,20]] [VIs (.int .i64 (p)), VIs (.slice (some ⟨g, 0, none⟩) n c1), VIs (.int .i64 (r)), VIs (.pointer (some ⟨g, r, none⟩)), VIs (.slice (some ⟨gr, 0, none⟩) n cr), VIs (.int .i64 (k)), VIs (.int .i64 (kk)), VIs (.pointer (some ⟨gr, kk, none⟩)), VIs (.int .i64 (y)), VIs (.int .i64 (p)), VIs (.slice (some ⟨g, 0, none⟩) n c1), VIs (.int .i64 (k)), VIs (.pointer (some ⟨g, k, none⟩)), VIs (.slice (some ⟨gk, 0, none⟩) n ck), VIs (.int .i64 (k)), VIs (.int .i64 (kk)), VIs (.pointer (some ⟨gk, kk, none⟩)), VIs (.int .i64 (z)), VIs (.int .i64 (invF p z)), VIs (.int .i64 (y * invF p z)), VIs (.int .i64 (f)), VIs (.int .i64 (f))] (fun w' => w'.cell? ⟨g, r, none⟩ = some (.slice (some ⟨gr, 0, none⟩) n cr) ∧ w'.cell? ⟨g, k, none⟩ = some (.slice (some ⟨gk, 0, none⟩) n ck) ∧ w'.cell? ⟨gr, kk, none⟩ = some (.int .i64 y) ∧ w'.cell? ⟨gk, kk, none⟩ = some (.int .i64 z) ∧ Below wr.heap.size wr w') (by kernel_rfl) (by kernel_rfl) (fun _ _ h hb => ⟨(hb.cell (World.block_lt_of_cell? _ _ h.1)).trans h.1, (hb.cell (World.block_lt_of_cell? _ _ h.2.1)).trans h.2.1, (hb.cell (World.block_lt_of_cell? _ _ h.2.2.1)).trans h.2.2.1, (hb.cell (World.block_lt_of_cell? _ _ h.2.2.2.1)).trans h.2.2.2.1, h.2.2.2.2.trans (hb.mono h.2.2.2.2.size)⟩) (⟨hcr, hck, hcy, hcz, zG.drew⟩) (fun x => ?_)
               refine zS (fun w' hS hV K hK => ?_) ?_
               · have q0 := hS.1; have q1 := hS.2.1; have q2 := hS.2.2.1; have q3 := hS.2.2.2.1; go_simp; exact zO hK
               refine zS (fun w' hS hV K hK => ?_) ?_
               · have q0 := hS.1; have q1 := hS.2.1; have q2 := hS.2.2.1; have q3 := hS.2.2.2.1; go_simp; exact zO hK
               refine zS (fun w' hS hV K hK => ?_) ?_
               · have q0 := hS.1; have q1 := hS.2.1; have q2 := hS.2.2.1; have q3 := hS.2.2.2.1; go_simp; exact zO hK
               refine zS (fun w' hS hV K hK => ?_) ?_
               · have e1 := zQ hV 1; have e2 := zQ hV 2; have q0 := hS.1; have q1 := hS.2.1; have q2 := hS.2.2.1; have q3 := hS.2.2.2.1; go_simp; exact zO hK
               refine zS (fun w' hS hV K hK => ?_) ?_
               · have e3 := zQ hV 3; have q0 := hS.1; have q1 := hS.2.1; have q2 := hS.2.2.1; have q3 := hS.2.2.2.1; go_simp; exact zO hK
               refine zS (fun w' hS hV K hK => ?_) ?_
               · have q0 := hS.1; have q1 := hS.2.1; have q2 := hS.2.2.1; have q3 := hS.2.2.2.1; go_simp; exact zO hK
               refine zS (fun w' hS hV K hK => ?_) ?_
               · have e5 := zQ hV 5; have q0 := hS.1; have q1 := hS.2.1; have q2 := hS.2.2.1; have q3 := hS.2.2.2.1; go_simp; exact zO hK
               refine zS (fun w' hS hV K hK => ?_) ?_
               · have e4 := zQ hV 4; have e6 := zQ hV 6; have q0 := hS.1; have q1 := hS.2.1; have q2 := hS.2.2.1; have q3 := hS.2.2.2.1; go_simp; exact zO hK
               refine zS (fun w' hS hV K hK => ?_) ?_
               · have e7 := zQ hV 7; have q0 := hS.1; have q1 := hS.2.1; have q2 := hS.2.2.1; have q3 := hS.2.2.2.1; go_simp; exact zO hK
               refine zS (fun w' hS hV K hK => ?_) ?_
               · have q0 := hS.1; have q1 := hS.2.1; have q2 := hS.2.2.1; have q3 := hS.2.2.2.1; go_simp; exact zO hK
               refine zS (fun w' hS hV K hK => ?_) ?_
               · have q0 := hS.1; have q1 := hS.2.1; have q2 := hS.2.2.1; have q3 := hS.2.2.2.1; go_simp; exact zO hK
               refine zS (fun w' hS hV K hK => ?_) ?_
               · have q0 := hS.1; have q1 := hS.2.1; have q2 := hS.2.2.1; have q3 := hS.2.2.2.1; go_simp; exact zO hK
               refine zS (fun w' hS hV K hK => ?_) ?_
               · have e10 := zQ hV 10; have e11 := zQ hV 11; have q0 := hS.1; have q1 := hS.2.1; have q2 := hS.2.2.1; have q3 := hS.2.2.2.1; go_simp; exact zO hK
               refine zS (fun w' hS hV K hK => ?_) ?_
               · have e12 := zQ hV 12; have q0 := hS.1; have q1 := hS.2.1; have q2 := hS.2.2.1; have q3 := hS.2.2.2.1; go_simp; exact zO hK
               refine zS (fun w' hS hV K hK => ?_) ?_
               · have q0 := hS.1; have q1 := hS.2.1; have q2 := hS.2.2.1; have q3 := hS.2.2.2.1; go_simp; exact zO hK
               refine zS (fun w' hS hV K hK => ?_) ?_
               · have e14 := zQ hV 14; have q0 := hS.1; have q1 := hS.2.1; have q2 := hS.2.2.1; have q3 := hS.2.2.2.1; go_simp; exact zO hK
               refine zS (fun w' hS hV K hK => ?_) ?_
               · have e13 := zQ hV 13; have e15 := zQ hV 15; have q0 := hS.1; have q1 := hS.2.1; have q2 := hS.2.2.1; have q3 := hS.2.2.2.1; go_simp; exact zO hK
               refine zS (fun w' hS hV K hK => ?_) ?_
               · have e16 := zQ hV 16; have q0 := hS.1; have q1 := hS.2.1; have q2 := hS.2.2.1; have q3 := hS.2.2.2.1; go_simp; exact zO hK
               refine zS (fun w' hS hV K hK => ?_) ?_
               · have e9 := zQ hV 9; have e17 := zQ hV 17; have q0 := hS.1; have q1 := hS.2.1; have q2 := hS.2.2.1; have q3 := hS.2.2.2.1; go_simp; refine (inv_any p z _ hp hp2 hzb.1 hzb.2).mono ?_; rintro e v1 ⟨rfl, rfl⟩; exact zO hK
               refine zS (fun w' hS hV K hK => ?_) ?_
               · have e8 := zQ hV 8; have e18 := zQ hV 18; have q0 := hS.1; have q1 := hS.2.1; have q2 := hS.2.2.1; have q3 := hS.2.2.2.1; go_simp; exact zO hK
               refine zS (fun w' hS hV K hK => ?_) ?_
               · have e0 := zQ hV 0; have e19 := zQ hV 19; have q0 := hS.1; have q1 := hS.2.1; have q2 := hS.2.2.1; have q3 := hS.2.2.2.1; go_simp; refine (num_any p (y * invF p z) _ hp0 hp2 (by omega) (by omega)).mono ?_; rintro e v1 ⟨rfl, rfl⟩; exact hK.out _ _ _ rfl rfl (by rw [← HF.out]; rfl) zG
               refine zS (fun w' hS hV K hK => ?_) ?_
               · have e20 := zQ hV 20; have q0 := hS.1; have q1 := hS.2.1; have q2 := hS.2.2.1; have q3 := hS.2.2.2.1; go_simp; exact zO hK
               refine fun w' hS hV => ?_
               have e0 := zT hV 0
               have e1 := zT hV 1
               have e2 := zT hV 2
               have e3 := zT hV 3
               have e4 := zT hV 4
               have e5 := zT hV 5
               have e6 := zT hV 6
               have e7 := zT hV 7
               have e8 := zT hV 8
               have e9 := zT hV 9
               have e10 := zT hV 10
               have e11 := zT hV 11
               have e12 := zT hV 12
               have e13 := zT hV 13
               have e14 := zT hV 14
               have e15 := zT hV 15
               have e16 := zT hV 16
               have e17 := zT hV 17
               have e18 := zT hV 18
               have e19 := zT hV 19
               have e20 := zT hV 20
               have e21 := zT hV 21
               simp only [e0, e1, e2, e3, e4, e5, e6, e7, e8, e9, e10, e11, e12, e13, e14, e15, e16, e17, e18, e19, e20, e21]
               clear e0 e1 e2 e3 e4 e5 e6 e7 e8 e9 e10 e11 e12 e13 e14 e15 e16 e17 e18 e19 e20 e21
               refine wpAny_done (by kernel_rfl) ?_ _
               obtain ⟨wv, hwv⟩ : ∃ W, W = w' := ⟨_, rfl⟩
               rw [← hwv] at hS ⊢
               have hcr := hS.1
               have hck := hS.2.1
               have HRR := Lib.hid (And.intro (HRR.out.1.below hS.2.2.2.2) HRR.out.2)
               have HRK := Lib.hid (And.intro (HRK.out.1.below hS.2.2.2.2) HRK.out.2)
               have HM6 := Lib.hid (HM6.out.below hS.2.2.2.2)
               have W3 := i64_small (x := -f) (by omega) (by omega)
               clear hS hV hwv hcy hcz hyb hzb hiv hmy W2
               go_wp2
               refine wp_obs 15 [[],[],[],[],[],[3,4],[3,4,5],[],[],[7,8],[7,8,9],[],[11],[2,3,4,5,6,7,8,9,10,11,12],[0,1],[0,1,2,3,4,5,6,7,8,9,10,11,12,13,14]] [VIs (.slice (some ⟨g, 0, none⟩) n c1), VIs (.int .i64 (r)), VIs (.int .i64 (p)), VIs (.slice (some ⟨g, 0, none⟩) n c1), VIs (.int .i64 (r)), VIs (.pointer (some ⟨g, r, none⟩)), VIs (.slice (some ⟨gr, 0, none⟩) n cr), VIs (.slice (some ⟨g, 0, none⟩) n c1), VIs (.int .i64 (k)), VIs (.pointer (some ⟨g, k, none⟩)), VIs (.slice (some ⟨gk, 0, none⟩) n ck), VIs (.int .i64 (f)), VIs (.int .i64 (-f)), VSl wv n (plusL p (X.getD r []) (X.getD k []) (-f)), VIs (.pointer (some ⟨g, r, none⟩))] (fun w' => w'.cell? ⟨g, r, none⟩ = some (.slice (some ⟨gr, 0, none⟩) n cr) ∧ w'.cell? ⟨g, k, none⟩ = some (.slice (some ⟨gk, 0, none⟩) n ck) ∧ Below wv.heap.size wv w') (by kernel_rfl) (by kernel_rfl) (fun _ _ h hb => ⟨(hb.cell (World.block_lt_of_cell? _ _ h.1)).trans h.1, (hb.cell (World.block_lt_of_cell? _ _ h.2.1)).trans h.2.1, h.2.2.trans (hb.mono h.2.2.size)⟩) (⟨hcr, hck, zG.drew⟩) (fun x => ?_)
               refine zS (fun w' hS hV K hK => ?_) ?_
               · have q0 := hS.1; have q1 := hS.2.1; go_simp; exact zO hK
               refine zS (fun w' hS hV K hK => ?_) ?_
               · have q0 := hS.1; have q1 := hS.2.1; go_simp; exact zO hK
               refine zS (fun w' hS hV K hK => ?_) ?_
               · have q0 := hS.1; have q1 := hS.2.1; go_simp; exact zO hK
               refine zS (fun w' hS hV K hK => ?_) ?_
               · have q0 := hS.1; have q1 := hS.2.1; go_simp; exact zO hK
               refine zS (fun w' hS hV K hK => ?_) ?_
               · have q0 := hS.1; have q1 := hS.2.1; go_simp; exact zO hK
               refine zS (fun w' hS hV K hK => ?_) ?_
               · have e3 := zQ hV 3; have e4 := zQ hV 4; have q0 := hS.1; have q1 := hS.2.1; go_simp; exact zO hK
               refine zS (fun w' hS hV K hK => ?_) ?_
               · have e5 := zQ hV 5; have q0 := hS.1; have q1 := hS.2.1; go_simp; exact zO hK
               refine zS (fun w' hS hV K hK => ?_) ?_
               · have q0 := hS.1; have q1 := hS.2.1; go_simp; exact zO hK
               refine zS (fun w' hS hV K hK => ?_) ?_
               · have q0 := hS.1; have q1 := hS.2.1; go_simp; exact zO hK
               refine zS (fun w' hS hV K hK => ?_) ?_
               · have e7 := zQ hV 7; have e8 := zQ hV 8; have q0 := hS.1; have q1 := hS.2.1; go_simp; exact zO hK
               refine zS (fun w' hS hV K hK => ?_) ?_
               · have e9 := zQ hV 9; have q0 := hS.1; have q1 := hS.2.1; go_simp; exact zO hK
               refine zS (fun w' hS hV K hK => ?_) ?_
               · have q0 := hS.1; have q1 := hS.2.1; go_simp; exact zO hK
               refine zS (fun w' hS hV K hK => ?_) ?_
               · have e11 := zQ hV 11; have q0 := hS.1; have q1 := hS.2.1; go_simp; exact zO hK
               refine zS (fun w' hS hV K hK => ?_) ?_
               · have e2 := zQ hV 2; have e6 := zQ hV 6; have e10 := zQ hV 10; have e12 := zQ hV 12; have q0 := hS.1; have q1 := hS.2.1; go_simp; refine (plus_any p _ n _ _ n _ (-f) _ _ _ hp hp2 (by omega) (Nat.le_refl _) (HRR.out.1.below hS.2.2) HRR.out.2.2 (HRK.out.1.below hS.2.2) HRK.out.2.2 (by omega) (by omega)).mono ?_; rintro e v1 ⟨A2, c2, rfl, hM⟩; exact hK.out _ _ _ rfl rfl ⟨_, _, rfl, hM.after hS.2.2⟩ hM.b
               refine zS (fun w' hS hV K hK => ?_) ?_
               · have e0 := zQ hV 0; have e1 := zQ hV 1; have q0 := hS.1; have q1 := hS.2.1; go_simp; exact zO hK
               refine fun w' hS hV => ?_
               have e0 := zT hV 0
               have e1 := zT hV 1
               have e2 := zT hV 2
               have e3 := zT hV 3
               have e4 := zT hV 4
               have e5 := zT hV 5
               have e6 := zT hV 6
               have e7 := zT hV 7
               have e8 := zT hV 8
               have e9 := zT hV 9
               have e10 := zT hV 10
               have e11 := zT hV 11
               have e12 := zT hV 12
               obtain ⟨A13, c13, e13, h13⟩ := hV 13 (by decide)
               have e14 := zT hV 14
               simp only [e0, e1, e2, e3, e4, e5, e6, e7, e8, e9, e10, e11, e12, e13, e14]
               clear e0 e1 e2 e3 e4 e5 e6 e7 e8 e9 e10 e11 e12 e13 e14
               have hbn := hS.2.2
               have q0 := hS.1
               have ff := (HM6.out.below hbn).frozen_ r
               refine any_one (j := 15) (by kernel_rfl) (Eq.trans (by simp only [zA, zB, zC]; exact rfl) rfl) (fun K hK => ?_)
               go_simp
               refine hK.out _ _ (wpAny_done (by kernel_rfl) ?_ _)
               have hM7 := HM6.out.setRow h13 r
               obtain ⟨w7, hw7⟩ : ∃ W, W = w'.setCell ⟨g, r, none⟩ (.slice A13 n c13) := ⟨_, rfl⟩
               rw [← hw7] at hM7 ⊢
               obtain ⟨Y, hY⟩ : ∃ Y, Y = hesA p k X r := ⟨_, rfl⟩
               have hM8 : MkII w1 w7 (some ⟨g, 0, none⟩) n c1 (rowsTo (addC p k r f) Y 0) := by
                rw [rowsTo_zero, hY]
                unfold hesA
                rw [← HFF.out]; exact hM7
               have HTY : Hid (Tab p n Y ∧ Y.length = n) := Lib.hid (by
                have h9 := hesA_tab hp0 HTX.out.1 k r (by rw [HTX.out.2]; exact hlr)
                rw [← hY, HTX.out.2] at h9; exact h9)
               have HRS : Hid (hesRs p k W (j + 1) = rowsTo (addC p k r f) Y n) := Lib.hid (by
                show hesR p k (hesRs p k W j) (k + 1 + j) = _
                rw [← HXE.out, ← HRE.out]
                unfold hesR
                rw [HTX.out.2, ← hY, ← HFF.out])
               clear hS hV hbn q0 ff hw7 hY hM7 h13 hcr hck W3
               go_wp2
               go_loopw [143] (fun u wr => ∃ q : Nat, q ≤ n ∧ u = .int .i64 q ∧ MkII w1 wr (some ⟨g, 0, none⟩) n c1 (rowsTo (addC p k r f) Y q)) (fun u _ => n - (intOf u).toNat)
               case atStart => exact ⟨0, by omega, rfl, hM8⟩
               case round =>
                obtain ⟨q, hq, rfl, hM9⟩ := hrel
                clear hM8
                by_cases hlq : q < n
                · have hT9 : Tab p n (rowsTo (addC p k r f) Y q) := rowsTo_tab HTY.out.1 (fun x h1 h2 => addC_ok hp0 x h1 h2) q
                  obtain ⟨Z, hZ⟩ : ∃ Z, Z = rowsTo (addC p k r f) Y q := ⟨_, rfl⟩
                  have hr9 : (rowsTo (addC p k r f) Y q).getD q [] = Y.getD q [] := by rw [rowsTo_getD (by rw [HTY.out.2]; exact hlq), if_neg (by omega)]
                  have HNZ : Hid (rowsTo (addC p k r f) Y (q + 1) = Z.set q (addC p k r f (Z.getD q []))) := Lib.hid (by rw [rowsTo_succ _ _ (by rw [HTY.out.2]; exact hlq), hZ, hr9])
                  rw [← hZ] at hM9 hT9
                  obtain ⟨gq, cq, hcq, -, -, hnq, hceq, hcfq⟩ := hM9.rowAt hT9 (by omega) hlq
                  have hca := hceq k hkn
                  have hcb := hceq r hlr
                  have hab : 0 ≤ ent Z q k ∧ ent Z q k < p := hnq.getD hp0 k
                  have hbb : 0 ≤ ent Z q r ∧ ent Z q r < p := hnq.getD hp0 r
                  obtain ⟨a, ha⟩ : ∃ a, a = ent Z q k := ⟨_, rfl⟩
                  obtain ⟨b, hb⟩ : ∃ b, b = ent Z q r := ⟨_, rfl⟩
                  rw [← ha] at hca hab
                  rw [← hb] at hcb hbb
                  have hfm := mul_b (a := f) (b := b) (by omega) (by omega)
                  have W4 := i64_small (x := f * b) (by omega) (by omega)
                  have W5 := i64_fit (a + f * b) (by omega) (by omega)
                  obtain ⟨v, hv⟩ : ∃ v, v = (a + f * b) % p := ⟨_, rfl⟩
                  have HVV := Lib.hid hv
                  have HAD : Hid (addC p k r f (Z.getD q []) = (Z.getD q []).set k v) := Lib.hid (by unfold addC; rw [hv, ha, hb]; rfl)
                  have HM9 := Lib.hid hM9
                  clear hZ hr9 hT9 hceq hnq ha hb hv hM9
                  go_wp2
                  refine wp_obs 25 [[],[],[0,1],[0,1,2],[],[],[],[],[6,7],[6,7,8],[],[6,7,8,9,10],[6,7,8,9,10,11],[],[],[],[14,15],[14,15,16],[],[14,15,16,17,18],[14,15,16,17,18,19],[13,14,15,16,17,18,19,20],[6,7,8,9,10,11,12,13,14,15,16,17,18,19,20,21],[5,6,7,8,9,10,11,12,13,14,15,16,17,18,19,20,21,22],[0,1,2,3,4],[0,1,2,3,4,5,6,7,8,9,10,11,12,13,14,15,16,17,18,19,20,21,22,23,24]] [VIs (.slice (some ⟨g, 0, none⟩) n c1), VIs (.int .i64 (q)), VIs (.pointer (some ⟨g, q, none⟩)), VIs (.slice (some ⟨gq, 0, none⟩) n cq), VIs (.int .i64 (k)), VIs (.int .i64 (p)), VIs (.slice (some ⟨g, 0, none⟩) n c1), VIs (.int .i64 (q)), VIs (.pointer (some ⟨g, q, none⟩)), VIs (.slice (some ⟨gq, 0, none⟩) n cq), VIs (.int .i64 (k)), VIs (.pointer (some ⟨gq, k, none⟩)), VIs (.int .i64 (a)), VIs (.int .i64 (f)), VIs (.slice (some ⟨g, 0, none⟩) n c1), VIs (.int .i64 (q)), VIs (.pointer (some ⟨g, q, none⟩)), VIs (.slice (some ⟨gq, 0, none⟩) n cq), VIs (.int .i64 (r)), VIs (.pointer (some ⟨gq, r, none⟩)), VIs (.int .i64 (b)), VIs (.int .i64 (f * b)), VIs (.int .i64 (a + f * b)), VIs (.int .i64 (v)), VIs (.pointer (some ⟨gq, k, none⟩))] (fun w' => w'.cell? ⟨g, q, none⟩ = some (.slice (some ⟨gq, 0, none⟩) n cq) ∧ w'.cell? ⟨gq, k, none⟩ = some (.int .i64 a) ∧ w'.cell? ⟨gq, r, none⟩ = some (.int .i64 b) ∧ Below wr.heap.size wr w') (by kernel_rfl) (by kernel_rfl) (fun _ _ h hb => ⟨(hb.cell (World.block_lt_of_cell? _ _ h.1)).trans h.1, (hb.cell (World.block_lt_of_cell? _ _ h.2.1)).trans h.2.1, (hb.cell (World.block_lt_of_cell? _ _ h.2.2.1)).trans h.2.2.1, h.2.2.2.trans (hb.mono h.2.2.2.size)⟩) (⟨hcq, hca, hcb, zG.drew⟩) (fun x => ?_)
                  refine zS (fun w' hS hV K hK => ?_) ?_
                  · have q0 := hS.1; have q1 := hS.2.1; have q2 := hS.2.2.1; go_simp; exact zO hK
                  refine zS (fun w' hS hV K hK => ?_) ?_
                  · have q0 := hS.1; have q1 := hS.2.1; have q2 := hS.2.2.1; go_simp; exact zO hK
                  refine zS (fun w' hS hV K hK => ?_) ?_
                  · have e0 := zQ hV 0; have e1 := zQ hV 1; have q0 := hS.1; have q1 := hS.2.1; have q2 := hS.2.2.1; go_simp; exact zO hK
                  refine zS (fun w' hS hV K hK => ?_) ?_
                  · have e2 := zQ hV 2; have q0 := hS.1; have q1 := hS.2.1; have q2 := hS.2.2.1; go_simp; exact zO hK
                  refine zS (fun w' hS hV K hK => ?_) ?_
                  · have q0 := hS.1; have q1 := hS.2.1; have q2 := hS.2.2.1; go_simp; exact zO hK
                  refine zS (fun w' hS hV K hK => ?_) ?_
                  · have q0 := hS.1; have q1 := hS.2.1; have q2 := hS.2.2.1; go_simp; exact zO hK
                  refine zS (fun w' hS hV K hK => ?_) ?_
                  · have q0 := hS.1; have q1 := hS.2.1; have q2 := hS.2.2.1; go_simp; exact zO hK
                  refine zS (fun w' hS hV K hK => ?_) ?_
                  · have q0 := hS.1; have q1 := hS.2.1; have q2 := hS.2.2.1; go_simp; exact zO hK
                  refine zS (fun w' hS hV K hK => ?_) ?_
                  · have e6 := zQ hV 6; have e7 := zQ hV 7; have q0 := hS.1; have q1 := hS.2.1; have q2 := hS.2.2.1; go_simp; exact zO hK
                  refine zS (fun w' hS hV K hK => ?_) ?_
                  · have e8 := zQ hV 8; have q0 := hS.1; have q1 := hS.2.1; have q2 := hS.2.2.1; go_simp; exact zO hK
                  refine zS (fun w' hS hV K hK => ?_) ?_
                  · have q0 := hS.1; have q1 := hS.2.1; have q2 := hS.2.2.1; go_simp; exact zO hK
                  refine zS (fun w' hS hV K hK => ?_) ?_
                  · have e9 := zQ hV 9; have e10 := zQ hV 10; have q0 := hS.1; have q1 := hS.2.1; have q2 := hS.2.2.1; go_simp; exact zO hK
                  refine zS (fun w' hS hV K hK => ?_) ?_
                  · have e11 := zQ hV 11; have q0 := hS.1; have q1 := hS.2.1; have q2 := hS.2.2.1; go_simp; exact zO hK
                  refine zS (fun w' hS hV K hK => ?_) ?_
                  · have q0 := hS.1; have q1 := hS.2.1; have q2 := hS.2.2.1; go_simp; exact zO hK
                  refine zS (fun w' hS hV K hK => ?_) ?_
                  · have q0 := hS.1; have q1 := hS.2.1; have q2 := hS.2.2.1; go_simp; exact zO hK
                  refine zS (fun w' hS hV K hK => ?_) ?_
                  · have q0 := hS.1; have q1 := hS.2.1; have q2 := hS.2.2.1; go_simp; exact zO hK
                  refine zS (fun w' hS hV K hK => ?_) ?_
                  · have e14 := zQ hV 14; have e15 := zQ hV 15; have q0 := hS.1; have q1 := hS.2.1; have q2 := hS.2.2.1; go_simp; exact zO hK
                  refine zS (fun w' hS hV K hK => ?_) ?_
                  · have e16 := zQ hV 16; have q0 := hS.1; have q1 := hS.2.1; have q2 := hS.2.2.1; go_simp; exact zO hK
                  refine zS (fun w' hS hV K hK => ?_) ?_
                  · have q0 := hS.1; have q1 := hS.2.1; have q2 := hS.2.2.1; go_simp; exact zO hK
                  refine zS (fun w' hS hV K hK => ?_) ?_
                  · have e17 := zQ hV 17; have e18 := zQ hV 18; have q0 := hS.1; have q1 := hS.2.1; have q2 := hS.2.2.1; go_simp; exact zO hK
                  refine zS (fun w' hS hV K hK => ?_) ?_
                  · have e19 := zQ hV 19; have q0 := hS.1; have q1 := hS.2.1; have q2 := hS.2.2.1; go_simp; exact zO hK
                  refine zS (fun w' hS hV K hK => ?_) ?_
                  · have e13 := zQ hV 13; have e20 := zQ hV 20; have q0 := hS.1; have q1 := hS.2.1; have q2 := hS.2.2.1; go_simp; exact zO hK
                  refine zS (fun w' hS hV K hK => ?_) ?_
                  · have e12 := zQ hV 12; have e21 := zQ hV 21; have q0 := hS.1; have q1 := hS.2.1; have q2 := hS.2.2.1; go_simp; exact zO hK
                  refine zS (fun w' hS hV K hK => ?_) ?_
                  · have e5 := zQ hV 5; have e22 := zQ hV 22; have q0 := hS.1; have q1 := hS.2.1; have q2 := hS.2.2.1; go_simp; refine (num_any p (a + f * b) _ hp0 hp2 (by omega) (by omega)).mono ?_; rintro e v1 ⟨rfl, rfl⟩; exact hK.out _ _ _ rfl rfl (by rw [← HVV.out]; rfl) zG
                  refine zS (fun w' hS hV K hK => ?_) ?_
                  · have e3 := zQ hV 3; have e4 := zQ hV 4; have q0 := hS.1; have q1 := hS.2.1; have q2 := hS.2.2.1; go_simp; exact zO hK
                  refine fun w' hS hV => ?_
                  have e0 := zT hV 0
                  have e1 := zT hV 1
                  have e2 := zT hV 2
                  have e3 := zT hV 3
                  have e4 := zT hV 4
                  have e5 := zT hV 5
                  have e6 := zT hV 6
                  have e7 := zT hV 7
                  have e8 := zT hV 8
                  have e9 := zT hV 9
                  have e10 := zT hV 10
                  have e11 := zT hV 11
                  have e12 := zT hV 12
                  have e13 := zT hV 13
                  have e14 := zT hV 14
                  have e15 := zT hV 15
                  have e16 := zT hV 16
                  have e17 := zT hV 17
                  have e18 := zT hV 18
                  have e19 := zT hV 19
                  have e20 := zT hV 20
                  have e21 := zT hV 21
                  have e22 := zT hV 22
                  have e23 := zT hV 23
                  have e24 := zT hV 24
                  simp only [e0, e1, e2, e3, e4, e5, e6, e7, e8, e9, e10, e11, e12, e13, e14, e15, e16, e17, e18, e19, e20, e21, e22, e23, e24]
                  clear e0 e1 e2 e3 e4 e5 e6 e7 e8 e9 e10 e11 e12 e13 e14 e15 e16 e17 e18 e19 e20 e21 e22 e23 e24
                  have hbn := hS.2.2.2
                  have q0 := hS.2.1
                  have ff : w'.frozen? ⟨gq, k, none⟩ = false := (hbn.frozen (p := ⟨gq, k, none⟩) (World.block_lt_of_cell? _ _ hca)).trans (hcfq k)
                  refine any_one (j := 25) (by kernel_rfl) (Eq.trans (by simp only [zA, zB, zC]; exact rfl) rfl) (fun K hK => ?_)
                  go_simp
                  refine hK.out _ _ (wpAny_done (by kernel_rfl) ?_ _)
                  have hM10 := ((HM9.out.below hbn).cellSet1 hlq hS.1 k v).1
                  rw [← HAD.out, ← HNZ.out] at hM10
                  clear hS hV hbn q0 ff hcq hca hcb hab hbb hfm W4 W5 hcfq
                  go_wp2
                  go_roundw
                  case rel => exact ⟨q + 1, by omega, by go_num, hM10⟩
                  case measure => simp [intOf]; omega
                · have hqn : q = n := by omega
                  rw [hqn] at hM9 ⊢
                  clear hqn hlq hq
                  go_wp2
                  go_roundw
                  case rel => exact ⟨j + 1, by have := HRE.out; omega, by rw [HRE.out]; go_num, by rw [HRS.out]; exact hM9⟩
                  case measure => simp [intOf]; omega
             · have hrn : r = n := by omega
               have HEND : Hid (hesTo p M (kk + 1) = X) := Lib.hid (by rw [HNX.out, HXE.out, show n - (k + 1) = j by have := HRE.out; omega])
               go_wp2
               go_roundw
               case rel => exact ⟨kk + 1, Or.inl (by have := HK.out; omega), by rw [HK.out]; go_num, by rw [HEND.out]; exact hM6⟩
               case measure => have := HK.out; simp [intOf]; omega
       · have hx0' : xe = 0 := by simpa using hz
         clear hri hli2 hni hce hcf hxe
         go_wp2
         go_round
         case rel => exact ⟨i + 1, by omega, by omega, by go_num, Lib.hid (by rw [← hi3.out, HPV.out, if_pos (by rw [← HX.out]; exact hx0')])⟩
         case measure => simp [intOf]; omega
     · obtain rfl : i = n := by omega
       have HVP : Hid (pivOf L kk k = i) := Lib.hid (by rw [← hi3.out, Nat.sub_self]; rfl)
       have HNX : Hid (hesTo p M (kk + 1) = L) := Lib.hid (by
        show hesS p (kk + 1) (hesTo p M kk) = L
        rw [← HL.out]
        unfold hesS
        rw [Nat.add_sub_cancel, ← HK.out, HVP.out, HTT.out.2, if_pos rfl])
       go_wp2
       go_roundw
       case rel => exact ⟨kk + 1, Or.inl (by have := HK.out; omega), by rw [HK.out]; go_num, by rw [HNX.out]; exact HM.out⟩
       case measure => have := HK.out; simp [intOf]; omega
  · have tk : decide ((k : Int) < (n : Int) - 1) = false := by simp; omega
    have HLE : Hid (hesL p M = L) := Lib.hid (by rw [HL.out]; unfold hesL; rw [HT.out.2, show n - 2 = kk by omega])
    have HM1 := Lib.hid (HM.out.b)
    have hBB := HMO.out.1.trans (HM1.out.mono HMO.out.1.size)
    clear hk hlk hkk W0
    go_wp2
    obtain ⟨wb, hwb⟩ : ∃ W, W = wr := ⟨_, rfl⟩
    have HMB : Hid (MkII w1 wb (some ⟨g, 0, none⟩) n c1 L) := Lib.hid (by rw [hwb]; exact HM.out)
    rw [← hwb] at hBB ⊢
    have HBB := Lib.hid hBB
    have hML := MkII.lone wb 1
    have HEND : Hid (charL p M = chP p L n) := Lib.hid (by unfold charL chP; rw [HLE.out, HT.out.2])
    clear hwb hBB HM HM1 HL tk HK HLE
    go_wp2
    refine char_loop6 p n c1 g w1 wb _ L _ _ hp hp2 h0 hn HTT HMB (MkII.lone wb 1) _ _ _ _ _ _ _ _ _ _ _ _ _ _ _ _ _ _ _ _ _ _ _ _ _ _ _ _ _ _ _ _ _ _ _ _ _ _ _ _ _ _ _ _ _ _ _ _ _ _ _ _ _ _ _ _ _ _ _ _ _ _ _ _ _ _ _ _ _ _ _ _ _ _ _ _ _ _ _ _ _ _ _ _ _ _ _ _ _ _ _ _ _ _ _ _ _ _ _ _ _ _ _ _ _ _ _ _ _ _ _ _ _ _ _ _ _ _ _ _ _ _ _ _ _ _ _ _ _ _ _ _ _ _ _ _ _ _ _ _ _ _ _ _ _ _ _ _ _ _ _ _ _ _ _ _ _ _ _ _ _ _ _ _ _ _ _ _ _ _ _ _ _ _ _ _ _ _ _ _ _ _ _ _ _ _ _ _ _ _ _ _ _ _ _ _ _ _ _ _ _ _ _ _ _ _ _ _ _ _ _ _ _ _ _ _ _ _ _ _ _ _ _ _ _ _ _ _ _ _ _ _ _ _ _ _ _ _ _ _ _ _ _ _ _ _ _ _ _ _ _ _ _ _ _ _ ?_
    intro A' c' wr u16 u17 u18 u174 u175 u176 u177 u178 u179 u180 u181 u182 u183 u184 u185 u186 u187 u188 u189 u190 u191 u192 u193 u194 u195 u196 u197 u198 u199 u200 u201 u202 u203 u204 u205 u206 u207 u208 u209 u210 u211 u212 u213 u214 u215 u216 u217 u218 u219 u220 u221 u222 u223 u224 u225 u226 u227 u228 u229 u230 u231 u232 u233 u234 u235 u236 u237 u238 u239 u240 u241 u242 u243 u244 u245 u246 u247 u248 u249 u250 u251 u252 hM
    have HBW := Lib.hid hM.b
    obtain ⟨gl, rfl, hxk, Ak, cA, hcl, hmk⟩ := hM.at_ (show n < n + 1 by omega)
    have hrow : (chTo p L n)[n] = chP p L n := by unfold chP; rw [getD_of_lt [] hxk]
    have hrl : (chP p L n).length = n + 1 := chP_len p L n
    rw [hrow, hrl] at hcl hmk
    obtain ⟨gA, oA, rfl, -⟩ := hmk.rd.2 (by omega)
    have hb1 := HMB.out.b
    have hbr := HBW.out
    have hblk := HBLK.out.below (hb1.trans (hbr.mono hb1.size)) HBLK.out.lt
    have hBr := HBB.out.trans (hbr.mono HBB.out.size)
    obtain ⟨X, hrun, hMX⟩ := copy_all (cl := cA) hBr (Nat.le_refl _) hblk (by rw [size_madeCells]) (by omega) hmk.rd (by omega)
    have HMX := Lib.hid hMX
    clear hb1 hbr hblk hBr hMX hM hxk hrow hrl hmk hML
    go_wp2
    go_ret
    exact ⟨_, _, rfl, by rw [HEND.out]; exact HMX.out⟩
end Go.Proofs.YtmkjdpnoloofjaaGreat
