/-
  LawFnCayleys: part 11 of the texts that the proof needs. No condition.
-/
import Derived.Test.YtdbibmilicjllaaGreatP10
namespace Go.Proofs.YtdbibmilicjllaaGreat
open Go.RowKit
set_option maxHeartbeats 3200000 in
set_option maxRecDepth 8000 in
theorem l03Isometry_0 (P : Int) (A : Option Addr) (n c : Nat) (sq : List Int) (D : Option Addr) (r d : Nat) (M : List (List Int)) (m : Nat) (w : World) (HP : isP P = true) (hr0 : 0 < r) (hr : r ≤ 16) (hm1 : 1 ≤ m) (hm : m ≤ 16) (hd : RdII w D r M) (hM : Rect m M) (h1 : r ≠ n) :
    Calls Tryz.prog 332 #[.agg #[.int .i64 P, .slice A n c], .agg #[.int .i64 P, .slice A n c], .slice D r d] w fun e w' => e = .returned (.bool false) ∧ Below w.heap.size w w' := by
  have t7 : (P != P) = false := by simp
  have t4 : ((r : Int) != (n : Int)) = true := by rw [bne_iff_ne]; omega
  have t6 : ((n : Int) != (n : Int)) = false := by simp
  have hB0 : Below w.heap.size w ((w.alloc (.cells #[.int .i64 P, .slice A n c] 26)).alloc (.cells #[.int .i64 P, .slice A n c] 26)) := ((Below.refl _ _).alloc (Nat.le_refl _) _).alloc (by simp) _
  have k0 : Blk ((w.alloc (.cells #[.int .i64 P, .slice A n c] 26)).alloc (.cells #[.int .i64 P, .slice A n c] 26)) w.heap.size 26 #[.int .i64 P, .slice A n c] := (Blk.new _ _ _).alloc _
  have k1 : Blk ((w.alloc (.cells #[.int .i64 P, .slice A n c] 26)).alloc (.cells #[.int .i64 P, .slice A n c] 26)) (w.heap.size + 1) 26 #[.int .i64 P, .slice A n c] := Blk.newAt3 (by simp)
  have HIM := Lib.hid fun w' (h : Below w.heap.size w w') => l02Is_any P D r d M m w' HP hr0 hr hm1 hm (hd.below h) hM
  
  have HR := Lib.hid hM
  clear hM  HP
  obtain ⟨q0, q1⟩ := k0.two
  obtain ⟨q2, q3⟩ := k1.two
  go_enter Tryz.func332, Tryz.ntmps332
  go_wp2

  
  go_ret
  exact ⟨rfl, hB0⟩
set_option maxHeartbeats 3200000 in
set_option maxRecDepth 8000 in
theorem l03Isometry_1 (P : Int) (A : Option Addr) (n c : Nat) (sq : List Int) (D : Option Addr) (r d : Nat) (M : List (List Int)) (m : Nat) (w : World) (HP : isP P = true) (hr0 : 0 < r) (hr : r ≤ 16) (hm1 : 1 ≤ m) (hm : m ≤ 16) (hd : RdII w D r M) (hM : Rect m M) (h1 : r = n) (hb : (M.all fun r => nums P r) = false) :
    Calls Tryz.prog 332 #[.agg #[.int .i64 P, .slice A n c], .agg #[.int .i64 P, .slice A n c], .slice D r d] w fun e w' => e = .returned (.bool false) ∧ Below w.heap.size w w' := by
  have t7 : (P != P) = false := by simp
  subst h1
  have t4 : ((r : Int) != (r : Int)) = false := by simp
  have hB0 : Below w.heap.size w ((w.alloc (.cells #[.int .i64 P, .slice A r c] 26)).alloc (.cells #[.int .i64 P, .slice A r c] 26)) := ((Below.refl _ _).alloc (Nat.le_refl _) _).alloc (by simp) _
  have k0 : Blk ((w.alloc (.cells #[.int .i64 P, .slice A r c] 26)).alloc (.cells #[.int .i64 P, .slice A r c] 26)) w.heap.size 26 #[.int .i64 P, .slice A r c] := (Blk.new _ _ _).alloc _
  have k1 : Blk ((w.alloc (.cells #[.int .i64 P, .slice A r c] 26)).alloc (.cells #[.int .i64 P, .slice A r c] 26)) (w.heap.size + 1) 26 #[.int .i64 P, .slice A r c] := Blk.newAt3 (by simp)
  have HIM := Lib.hid fun w' (h : Below w.heap.size w w') => l02Is_any P D r d M m w' HP hr0 hr hm1 hm (hd.below h) hM
  rw [hb] at HIM
  have HR := Lib.hid hM
  clear hM hb HP
  obtain ⟨q0, q1⟩ := k0.two
  obtain ⟨q2, q3⟩ := k1.two
  go_enter Tryz.func332, Tryz.ntmps332
  go_wp2_with fail
  refine (HIM.out _ hB0).mono ?_
  rintro e w2 ⟨rfl, hb2⟩
  have hB2 := hB0.trans (hb2.mono hB0.size)
  obtain ⟨q4, q5⟩ := (k0.below hb2 k0.lt).two; obtain ⟨q6, q7⟩ := (k1.below hb2 k1.lt).two; clear q0 q1 q2 q3; go_wp2
  go_ret
  exact ⟨rfl, hB2⟩
set_option maxHeartbeats 3200000 in
set_option maxRecDepth 8000 in
theorem l03Isometry_2 (P : Int) (A : Option Addr) (n c : Nat) (sq : List Int) (D : Option Addr) (r d : Nat) (M : List (List Int)) (m : Nat) (w : World) (HP : isP P = true) (hr0 : 0 < r) (hr : r ≤ 16) (hm1 : 1 ≤ m) (hm : m ≤ 16) (hd : RdII w D r M) (hM : Rect m M) (hb : (M.all fun r => nums P r) = true) (h1 : r = n) (h2 : m ≠ n) :
    Calls Tryz.prog 332 #[.agg #[.int .i64 P, .slice A n c], .agg #[.int .i64 P, .slice A n c], .slice D r d] w fun e w' => e = .returned (.bool false) ∧ Below w.heap.size w w' := by
  have t7 : (P != P) = false := by simp
  subst h1
  have t4 : ((r : Int) != (r : Int)) = false := by simp
  have t5 : ((m : Int) != (r : Int)) = true := by rw [bne_iff_ne]; omega
  have hB0 : Below w.heap.size w ((w.alloc (.cells #[.int .i64 P, .slice A r c] 26)).alloc (.cells #[.int .i64 P, .slice A r c] 26)) := ((Below.refl _ _).alloc (Nat.le_refl _) _).alloc (by simp) _
  have k0 : Blk ((w.alloc (.cells #[.int .i64 P, .slice A r c] 26)).alloc (.cells #[.int .i64 P, .slice A r c] 26)) w.heap.size 26 #[.int .i64 P, .slice A r c] := (Blk.new _ _ _).alloc _
  have k1 : Blk ((w.alloc (.cells #[.int .i64 P, .slice A r c] 26)).alloc (.cells #[.int .i64 P, .slice A r c] 26)) (w.heap.size + 1) 26 #[.int .i64 P, .slice A r c] := Blk.newAt3 (by simp)
  have HIM := Lib.hid fun w' (h : Below w.heap.size w w') => l02Is_any P D r d M m w' HP hr0 hr hm1 hm (hd.below h) hM
  rw [hb] at HIM
  have HR := Lib.hid hM
  clear hM hb HP
  obtain ⟨q0, q1⟩ := k0.two
  obtain ⟨q2, q3⟩ := k1.two
  go_enter Tryz.func332, Tryz.ntmps332
  go_wp2_with fail
  refine (HIM.out _ hB0).mono ?_
  rintro e w2 ⟨rfl, hb2⟩
  have hB2 := hB0.trans (hb2.mono hB0.size)
  obtain ⟨g, o, rfl, hx0, A0, c0, hc0, -, -⟩ := (hd.below hB2).at_ hr0
  rw [HR.out M[0] (List.getElem_mem hx0), Nat.add_zero] at hc0
  clear hd hx0
  obtain ⟨q4, q5⟩ := (k0.below hb2 k0.lt).two; obtain ⟨q6, q7⟩ := (k1.below hb2 k1.lt).two; clear q0 q1 q2 q3; go_wp2
  go_ret
  exact ⟨rfl, hB2⟩
set_option maxHeartbeats 6400000 in
set_option maxRecDepth 8000 in
theorem l03Isometry_sq (P : Int) (A : Option Addr) (n c : Nat) (sq : List Int) (D : Option Addr) (d : Nat) (M : List (List Int)) (w : World) (HP : isP P = true) (hn0 : 0 < n) (hn : n ≤ 6) (ha : Rd w A n (ints sq)) (hs : NumsL P sq) (hd : RdII w D n M) (hM : Tab P n M) :
    Calls Tryz.prog 332 #[.agg #[.int .i64 P, .slice A n c], .agg #[.int .i64 P, .slice A n c], .slice D n d] w fun e w' => e = .returned (.bool (isoB P sq M)) ∧ Below w.heap.size w w' := by
  have t7 : (P != P) = false := by simp
  have t6 : ((n : Int) != (n : Int)) = false := by simp
  have hB0 : Below w.heap.size w ((w.alloc (.cells #[.int .i64 P, .slice A n c] 26)).alloc (.cells #[.int .i64 P, .slice A n c] 26)) := ((Below.refl _ _).alloc (Nat.le_refl _) _).alloc (by simp) _
  have k0 : Blk ((w.alloc (.cells #[.int .i64 P, .slice A n c] 26)).alloc (.cells #[.int .i64 P, .slice A n c] 26)) w.heap.size 26 #[.int .i64 P, .slice A n c] := (Blk.new _ _ _).alloc _
  have k1 : Blk ((w.alloc (.cells #[.int .i64 P, .slice A n c] 26)).alloc (.cells #[.int .i64 P, .slice A n c] 26)) (w.heap.size + 1) 26 #[.int .i64 P, .slice A n c] := Blk.newAt3 (by simp)
  obtain ⟨hp3, hp2⟩ := isP_ge HP
  have HTT : Hid (Tab P n (transL M) ∧ (transL M).length = n) := Lib.hid (trans_ok (by omega) hM (hd.len) hn0)
  have HM := Lib.hid hM
  have HSN := Lib.hid hs
  have HSL := Lib.hid ha.lenI
  have HFR : Hid (frB P sq.length M = true) := Lib.hid (frB_iff.2 ⟨hd.len.trans ha.lenI.symm, by rw [ha.lenI]; exact hM⟩)
  obtain ⟨R, hR⟩ : ∃ b, b = isoB P sq M := ⟨_, rfl⟩
  rw [← hR]
  have HR := Lib.hid hR
  obtain ⟨dd, hdd⟩ : ∃ x, x = detL P M := ⟨_, rfl⟩
  have HD := Lib.hid hdd
  have HIM := Lib.hid fun w' (h : Below w.heap.size w w') => l02Is_any P D n d M n w' HP hn0 (by omega) hn0 (by omega) (hd.below h) (Rect.of_tab hM)
  have hall : (M.all fun r => nums P r) = true := List.all_eq_true.2 fun r hr => numsL_nums (hM r hr).2
  rw [hall] at HIM
  have HDE := Lib.hid fun w' (h : Below w.heap.size w w') => l02Det_any P D n d M w' HP hn0 (by omega) (hd.below h) hM
  rw [← hdd] at HDE
  have HTP := Lib.hid fun w' (h : Below w.heap.size w w') => l02Turn_any P D n d M n w' hn0 (by omega) (by omega) (hd.below h) hM
  have HA := Lib.hid ha
  obtain ⟨b, hb0⟩ : ∃ b, b = (dd == 0) := ⟨_, rfl⟩
  have hb1 : (dd == 0) = b := hb0.symm
  have HB : Hid ((b = true → R = false) ∧ (b = false → detL P M ≠ 0)) := Lib.hid ⟨fun h => by rw [HR.out]; exact is_det (by rw [← hdd]; rw [h] at hb0; simpa using hb0.symm), fun h => by rw [← hdd]; rw [h] at hb0; simpa using hb0.symm⟩
  have HDD := Lib.hid hd
  clear hall hM hd hs ha hR hdd hb0 HP
  obtain ⟨q0, q1⟩ := k0.two
  obtain ⟨q2, q3⟩ := k1.two
  go_enter Tryz.func332, Tryz.ntmps332
  go_wp2_with fail
  refine (HIM.out _ hB0).mono ?_
  rintro e w2 ⟨rfl, hb2⟩
  have hB2 := hB0.trans (hb2.mono hB0.size)
  have k2 := k0.below hb2 k0.lt
  have l2 := k1.below hb2 k1.lt
  clear q0 q1 q2 q3 k0 k1 hB0
  obtain ⟨g, o, rfl, hx0, A0, c0, hc0, -, -⟩ := (HDD.out.below hB2).at_ hn0
  rw [(HM.out M[0] (List.getElem_mem hx0)).1, Nat.add_zero] at hc0
  clear hx0
  obtain ⟨q0, q1⟩ := k2.two
  obtain ⟨q2, q3⟩ := l2.two
  go_wp2_with fail
  refine (HDE.out _ hB2).mono ?_
  rintro e w3 ⟨rfl, hb3⟩
  have hB3 := hB2.trans (hb3.mono hB2.size)
  have k3 := k2.below hb3 k2.lt
  have l3 := l2.below hb3 l2.lt
  clear q0 q1 q2 q3 k2 l2 hB2 hc0
  cases b
  · have HDN := Lib.hid (HB.out.2 rfl)
    clear HB
    go_wp2_with fail
    refine (HTP.out w3 hB3).mono ?_
    rintro e w4 ⟨A4, c4, rfl, hM4⟩
    have k4 := k3.below hM4.b k3.lt
    have l4 := l3.below hM4.b l3.lt
    have hB4 := hB3.trans (hM4.b.mono hB3.size)
    have C4 := hM4.rd
    clear k3 l3 hB3 hM4 hb1
    go_wp2
    go_loopw [9] (fun i wr => ∃ j : Nat, j ≤ n ∧ i = .int .i64 j ∧ Below w4.heap.size w4 wr ∧ Hid (isTo P sq M (fun a => a + 1) j 0)) (fun i _ => n - (intOf i).toNat)
    case atStart => exact ⟨0, by omega, rfl, Below.refl _ _, Lib.hid ⟨fun a ha => absurd ha (by omega), fun b hb => absurd hb (by omega)⟩⟩
    case round =>
      obtain ⟨i, hi, rfl, hbr, HI⟩ := hrel
      by_cases hlt : i < n
      · obtain ⟨gc, oc, rfl, hxi, Ai, ci, hci4, hri, -⟩ := C4.at_ hlt
        have ht := HTT.out.1 _ (List.getElem_mem hxi)
        have li := ht.1
        rw [li] at hci4 hri
        have HNI := Lib.hid ht.2
        have HGI : Hid ((transL M).getD i [] = (transL M)[i]) := Lib.hid (getD_of_lt [] hxi)
        obtain ⟨vi, hvi⟩ : ∃ v, v = (transL M)[i] := ⟨_, rfl⟩
        rw [← hvi] at hri HNI HGI
        have HCI := Lib.hid hci4
        clear hvi ht li hxi hci4
        obtain ⟨si, hsi⟩ : ∃ s, s = sq.getD i 0 := ⟨_, rfl⟩
        have HSI := Lib.hid hsi
        obtain ⟨ga, oa, eA, hxa, hca⟩ := HA.out.int hlt
        have hsv : sq[i] = si := by rw [hsi, getD_of_lt 0 hxa]
        rw [hsv] at hca
        have EA := Lib.hid eA
        have HCA := Lib.hid hca
        clear hsi hsv hxa eA hca
        go_wp2
        go_loopw [10] (fun k wr => ∃ j : Nat, j ≤ i + 1 ∧ k = .int .i64 j ∧ Below w4.heap.size w4 wr ∧ Hid (isTo P sq M (fun a => a + 1) i j)) (fun k _ => n + 1 - (intOf k).toNat)
        case atStart => exact ⟨0, by omega, rfl, hbr, HI⟩
        case round =>
          obtain ⟨k, hk, rfl, hbw, HK⟩ := hrel
          clear hbr
          by_cases hkt : k ≤ i
          · have hkn : k < n := by omega
            obtain ⟨gc', oc', e9, hxk, Ak, ck, hck, hrk, -⟩ := (C4.below hbw).at_ (show k < n by omega)
            cases e9
            have hci := (hbw.cell (World.block_lt_of_cell? _ _ HCI.out)).trans HCI.out
            have ht := HTT.out.1 _ (List.getElem_mem hxk)
            have lk := ht.1
            rw [lk] at hck hrk
            have HNK := Lib.hid ht.2
            have HGK : Hid ((transL M).getD k [] = (transL M)[k]) := Lib.hid (getD_of_lt [] hxk)
            obtain ⟨vk, hvk⟩ : ∃ v, v = (transL M)[k] := ⟨_, rfl⟩
            rw [← hvk] at hrk HNK HGK
            clear hvk ht lk hxk
            have hB5 := hB4.trans (hbw.mono hB4.size)
            have k5 := k4.below hbw k4.lt
            have l5 := l4.below hbw l4.lt
            have HPR := Lib.hid fun (w' : World) (h : Below wr.heap.size wr w') => l03Pair_any P A n c sq Ai ci vi Ak ck vk w' (by omega) hp2 hn ((HA.out.below hB5).below h) HSN.out ((hri.below hbw).below h) HNI.out (hrk.below h) HNK.out
            have HZZ : Hid (pairL P sq vi vk = colP P sq M i k) := Lib.hid (by unfold colP; rw [HGI.out, HGK.out])
            obtain ⟨z, hz⟩ : ∃ z, z = pairL P sq vi vk := ⟨_, rfl⟩
            rw [← hz] at HPR HZZ
            have hca5 : wr.cell? ⟨ga, oa + i, none⟩ = some (.int .i64 si) := (hB5.cell (World.block_lt_of_cell? _ _ HCA.out)).trans HCA.out
            clear hz hrk
            obtain ⟨q0, q1⟩ := k5.two
            obtain ⟨q2, q3⟩ := l5.two
            by_cases hik : i = k
            · subst hik
              have eA := EA.out
              subst eA
              have e5 := hci.symm.trans hck
              injection e5 with e5
              injection e5 with e5 _ e6
              subst e5
              subst e6
              obtain ⟨t, ht0⟩ : ∃ t, t = (z != si) := ⟨_, rfl⟩
              have ht1 : (z != si) = t := ht0.symm
              have HZ : Hid ((t = true → R = false) ∧ (t = false → isTo P sq M (fun a => a + 1) i (i + 1))) := Lib.hid ⟨fun h => by rw [HR.out]; exact is_stop (i := i) (k := i) (by rw [HSL.out]; exact hlt) (by rw [HSL.out]; omega) (by rw [← HZZ.out]; unfold colW; rw [if_pos rfl, ← HSI.out]; rw [h] at ht0; simpa using ht0.symm), fun h => HK.out.next (by rw [← HZZ.out]; unfold colW; rw [if_pos rfl, ← HSI.out]; rw [h] at ht0; simpa using ht0.symm)⟩
              have t9 : ((i : Int) == (i : Int)) = true := by simp
              clear ht0
              go_wp2
              refine wp_obs 12 [[], [], [], [1, 2], [1, 2, 3], [], [], [5, 6], [5, 6, 7], [0, 1, 2, 3, 4, 5, 6, 7, 8], [], [0, 1, 2, 3, 4, 5, 6, 7, 8, 9, 10]] [VIs (.agg #[.int .i64 P, .slice (some ⟨ga, oa, none⟩) n c]), VIs (.slice (some ⟨gc, oc, none⟩) n c4), VIs (.int .i64 (i)), VIs (.pointer (some ⟨gc, oc + i, none⟩)), VIs (.slice Ai n ci), VIs (.slice (some ⟨gc, oc, none⟩) n c4), VIs (.int .i64 (i)), VIs (.pointer (some ⟨gc, oc + i, none⟩)), VIs (.slice Ai n ci), VIs (.int .i64 (z)), VIs (.int .i64 (si)), VIs (.bool t)] (fun w' => w'.cell? ⟨gc, oc + i, none⟩ = some (.slice Ai n ci) ∧ w'.cell? ⟨gc, oc + i, none⟩ = some (.slice Ai n ci) ∧ Blk w' (w.heap.size + 1) 26 #[.int .i64 P, .slice (some ⟨ga, oa, none⟩) n c] ∧ Below wr.heap.size wr w') (by kernel_rfl) (by kernel_rfl) (fun _ _ h hb => ⟨(hb.cell (World.block_lt_of_cell? _ _ h.1)).trans h.1, (hb.cell (World.block_lt_of_cell? _ _ h.2.1)).trans h.2.1, h.2.2.1.below hb h.2.2.1.lt, h.2.2.2.trans (hb.mono h.2.2.2.size)⟩) (⟨hci, hci, l5.drew, (Below.refl _ _).drew⟩) (fun x => ?_)
              refine obs_step (Eq.trans (by simp only [zA, zC]; exact rfl) rfl) rfl (fun w' hS hV K hK => ?_) ?_
              · have q4 := hS.1; have q5 := hS.2.1; obtain ⟨q2, q3⟩ := hS.2.2.1.two
                go_simp
                exact hK.out _ _ _ rfl rfl rfl (Below.refl _ _)
              simp only [zD, zE, zF]
              refine obs_step (Eq.trans (by simp only [zA, zB, zC]; exact rfl) rfl) rfl (fun w' hS hV K hK => ?_) ?_
              · have q4 := hS.1; have q5 := hS.2.1; obtain ⟨q2, q3⟩ := hS.2.2.1.two
                go_simp
                exact hK.out _ _ _ rfl rfl rfl (Below.refl _ _)
              simp only [zD, zE, zF]
              refine obs_step (Eq.trans (by simp only [zA, zB, zC]; exact rfl) rfl) rfl (fun w' hS hV K hK => ?_) ?_
              · have q4 := hS.1; have q5 := hS.2.1; obtain ⟨q2, q3⟩ := hS.2.2.1.two
                go_simp
                exact hK.out _ _ _ rfl rfl rfl (Below.refl _ _)
              simp only [zD, zE, zF]
              refine obs_step (Eq.trans (by simp only [zA, zB, zC]; exact rfl) rfl) rfl (fun w' hS hV K hK => ?_) ?_
              · have e1 : x 1 = (.slice (some ⟨gc, oc, none⟩) n c4) := hV 1 (by decide)
                have e2 : x 2 = (.int .i64 (i)) := hV 2 (by decide)
                have q4 := hS.1; have q5 := hS.2.1; obtain ⟨q2, q3⟩ := hS.2.2.1.two
                go_simp
                exact hK.out _ _ _ rfl rfl rfl (Below.refl _ _)
              simp only [zD, zE, zF]
              refine obs_step (Eq.trans (by simp only [zA, zB, zC]; exact rfl) rfl) rfl (fun w' hS hV K hK => ?_) ?_
              · have e3 : x 3 = (.pointer (some ⟨gc, oc + i, none⟩)) := hV 3 (by decide)
                have q4 := hS.1; have q5 := hS.2.1; obtain ⟨q2, q3⟩ := hS.2.2.1.two
                go_simp
                exact hK.out _ _ _ rfl rfl rfl (Below.refl _ _)
              simp only [zD, zE, zF]
              refine obs_step (Eq.trans (by simp only [zA, zB, zC]; exact rfl) rfl) rfl (fun w' hS hV K hK => ?_) ?_
              · have q4 := hS.1; have q5 := hS.2.1; obtain ⟨q2, q3⟩ := hS.2.2.1.two
                go_simp
                exact hK.out _ _ _ rfl rfl rfl (Below.refl _ _)
              simp only [zD, zE, zF]
              refine obs_step (Eq.trans (by simp only [zA, zB, zC]; exact rfl) rfl) rfl (fun w' hS hV K hK => ?_) ?_
              · have q4 := hS.1; have q5 := hS.2.1; obtain ⟨q2, q3⟩ := hS.2.2.1.two
                go_simp
                exact hK.out _ _ _ rfl rfl rfl (Below.refl _ _)
              simp only [zD, zE, zF]
              refine obs_step (Eq.trans (by simp only [zA, zB, zC]; exact rfl) rfl) rfl (fun w' hS hV K hK => ?_) ?_
              · have e5 : x 5 = (.slice (some ⟨gc, oc, none⟩) n c4) := hV 5 (by decide)
                have e6 : x 6 = (.int .i64 (i)) := hV 6 (by decide)
                have q4 := hS.1; have q5 := hS.2.1; obtain ⟨q2, q3⟩ := hS.2.2.1.two
                go_simp
                exact hK.out _ _ _ rfl rfl rfl (Below.refl _ _)
              simp only [zD, zE, zF]
              refine obs_step (Eq.trans (by simp only [zA, zB, zC]; exact rfl) rfl) rfl (fun w' hS hV K hK => ?_) ?_
              · have e7 : x 7 = (.pointer (some ⟨gc, oc + i, none⟩)) := hV 7 (by decide)
                have q4 := hS.1; have q5 := hS.2.1; obtain ⟨q2, q3⟩ := hS.2.2.1.two
                go_simp
                exact hK.out _ _ _ rfl rfl rfl (Below.refl _ _)
              simp only [zD, zE, zF]
              refine obs_step (Eq.trans (by simp only [zA, zB, zC]; exact rfl) rfl) rfl (fun w' hS hV K hK => ?_) ?_
              · have e0 : x 0 = (.agg #[.int .i64 P, .slice (some ⟨ga, oa, none⟩) n c]) := hV 0 (by decide)
                have e4 : x 4 = (.slice Ai n ci) := hV 4 (by decide)
                have e8 : x 8 = (.slice Ai n ci) := hV 8 (by decide)
                have q4 := hS.1; have q5 := hS.2.1; obtain ⟨q2, q3⟩ := hS.2.2.1.two
                go_simp
                refine (HPR.out _ hS.2.2.2).mono ?_
                rintro e v1 ⟨rfl, hb⟩
                exact hK.out _ _ _ rfl rfl rfl hb
              simp only [zD, zE, zF]
              refine obs_step (Eq.trans (by simp only [zA, zB, zC]; exact rfl) rfl) rfl (fun w' hS hV K hK => ?_) ?_
              · have q4 := hS.1; have q5 := hS.2.1; obtain ⟨q2, q3⟩ := hS.2.2.1.two
                go_simp
                exact hK.out _ _ _ rfl rfl rfl (Below.refl _ _)
              simp only [zD, zE, zF]
              refine obs_step (Eq.trans (by simp only [zA, zB, zC]; exact rfl) rfl) rfl (fun w' hS hV K hK => ?_) ?_
              · have e9 : x 9 = (.int .i64 (z)) := hV 9 (by decide)
                have e10 : x 10 = (.int .i64 (si)) := hV 10 (by decide)
                have q4 := hS.1; have q5 := hS.2.1; obtain ⟨q2, q3⟩ := hS.2.2.1.two
                go_simp
                exact hK.out _ _ _ rfl rfl rfl (Below.refl _ _)
              simp only [zD, zE, zF]
              refine fun w' hS hV => ?_
              have e0 : x 0 = (.agg #[.int .i64 P, .slice (some ⟨ga, oa, none⟩) n c]) := hV 0 (by decide)
              have e1 : x 1 = (.slice (some ⟨gc, oc, none⟩) n c4) := hV 1 (by decide)
              have e2 : x 2 = (.int .i64 (i)) := hV 2 (by decide)
              have e3 : x 3 = (.pointer (some ⟨gc, oc + i, none⟩)) := hV 3 (by decide)
              have e4 : x 4 = (.slice Ai n ci) := hV 4 (by decide)
              have e5 : x 5 = (.slice (some ⟨gc, oc, none⟩) n c4) := hV 5 (by decide)
              have e6 : x 6 = (.int .i64 (i)) := hV 6 (by decide)
              have e7 : x 7 = (.pointer (some ⟨gc, oc + i, none⟩)) := hV 7 (by decide)
              have e8 : x 8 = (.slice Ai n ci) := hV 8 (by decide)
              have e9 : x 9 = (.int .i64 (z)) := hV 9 (by decide)
              have e10 : x 10 = (.int .i64 (si)) := hV 10 (by decide)
              have e11 : x 11 = (.bool t) := hV 11 (by decide)
              simp only [e0, e1, e2, e3, e4, e5, e6, e7, e8, e9, e10, e11]
              clear e0 e1 e2 e3 e4 e5 e6 e7 e8 e9 e10 e11
              refine wpAny_done (by kernel_rfl) ?_ _
              have hB6 := hS.2.2.2
              clear hS hci hck l5 k5 q0 q1 q2 q3 ht1 t9
              cases t
              · have HZ1 := Lib.hid (HZ.out.2 rfl)
                clear HZ
                go_wp2
                go_roundw
                case rel => exact ⟨i + 1, by omega, by go_num, hbw.trans (hB6.mono hbw.size), HZ1⟩
                case measure => simp [intOf]; omega
              · obtain rfl : R = false := HZ.out.1 rfl
                clear HZ
                go_wp2
                go_ret
                exact ⟨rfl, hB5.trans (hB6.mono hB5.size)⟩
            · obtain ⟨t, ht0⟩ : ∃ t, t = (z != 0) := ⟨_, rfl⟩
              have ht1 : (z != 0) = t := ht0.symm
              have HZ : Hid ((t = true → R = false) ∧ (t = false → isTo P sq M (fun a => a + 1) i (k + 1))) := Lib.hid ⟨fun h => by rw [HR.out]; exact is_stop (i := i) (k := k) (by rw [HSL.out]; exact hlt) (by rw [HSL.out]; omega) (by rw [← HZZ.out]; unfold colW; rw [if_neg hik]; rw [h] at ht0; simpa using ht0.symm), fun h => HK.out.next (by rw [← HZZ.out]; unfold colW; rw [if_neg hik]; rw [h] at ht0; simpa using ht0.symm)⟩
              have t9 : ((i : Int) == (k : Int)) = false := by rw [beq_eq_false_iff_ne]; omega
              clear ht0 hik
              go_wp2
              refine wp_obs 12 [[], [], [], [1, 2], [1, 2, 3], [], [], [5, 6], [5, 6, 7], [0, 1, 2, 3, 4, 5, 6, 7, 8], [], [0, 1, 2, 3, 4, 5, 6, 7, 8, 9, 10]] [VIs (.agg #[.int .i64 P, .slice A n c]), VIs (.slice (some ⟨gc, oc, none⟩) n c4), VIs (.int .i64 (i)), VIs (.pointer (some ⟨gc, oc + i, none⟩)), VIs (.slice Ai n ci), VIs (.slice (some ⟨gc, oc, none⟩) n c4), VIs (.int .i64 (k)), VIs (.pointer (some ⟨gc, oc + k, none⟩)), VIs (.slice Ak n ck), VIs (.int .i64 (z)), VIs (.int .i64 (0)), VIs (.bool t)] (fun w' => w'.cell? ⟨gc, oc + i, none⟩ = some (.slice Ai n ci) ∧ w'.cell? ⟨gc, oc + k, none⟩ = some (.slice Ak n ck) ∧ Blk w' (w.heap.size + 1) 26 #[.int .i64 P, .slice A n c] ∧ Below wr.heap.size wr w') (by kernel_rfl) (by kernel_rfl) (fun _ _ h hb => ⟨(hb.cell (World.block_lt_of_cell? _ _ h.1)).trans h.1, (hb.cell (World.block_lt_of_cell? _ _ h.2.1)).trans h.2.1, h.2.2.1.below hb h.2.2.1.lt, h.2.2.2.trans (hb.mono h.2.2.2.size)⟩) (⟨hci, hck, l5.drew, (Below.refl _ _).drew⟩) (fun x => ?_)
              refine obs_step (Eq.trans (by simp only [zA, zC]; exact rfl) rfl) rfl (fun w' hS hV K hK => ?_) ?_
              · have q4 := hS.1; have q5 := hS.2.1; obtain ⟨q2, q3⟩ := hS.2.2.1.two
                go_simp
                exact hK.out _ _ _ rfl rfl rfl (Below.refl _ _)
              simp only [zD, zE, zF]
              refine obs_step (Eq.trans (by simp only [zA, zB, zC]; exact rfl) rfl) rfl (fun w' hS hV K hK => ?_) ?_
              · have q4 := hS.1; have q5 := hS.2.1; obtain ⟨q2, q3⟩ := hS.2.2.1.two
                go_simp
                exact hK.out _ _ _ rfl rfl rfl (Below.refl _ _)
              simp only [zD, zE, zF]
              refine obs_step (Eq.trans (by simp only [zA, zB, zC]; exact rfl) rfl) rfl (fun w' hS hV K hK => ?_) ?_
              · have q4 := hS.1; have q5 := hS.2.1; obtain ⟨q2, q3⟩ := hS.2.2.1.two
                go_simp
                exact hK.out _ _ _ rfl rfl rfl (Below.refl _ _)
              simp only [zD, zE, zF]
              refine obs_step (Eq.trans (by simp only [zA, zB, zC]; exact rfl) rfl) rfl (fun w' hS hV K hK => ?_) ?_
              · have e1 : x 1 = (.slice (some ⟨gc, oc, none⟩) n c4) := hV 1 (by decide)
                have e2 : x 2 = (.int .i64 (i)) := hV 2 (by decide)
                have q4 := hS.1; have q5 := hS.2.1; obtain ⟨q2, q3⟩ := hS.2.2.1.two
                go_simp
                exact hK.out _ _ _ rfl rfl rfl (Below.refl _ _)
              simp only [zD, zE, zF]
              refine obs_step (Eq.trans (by simp only [zA, zB, zC]; exact rfl) rfl) rfl (fun w' hS hV K hK => ?_) ?_
              · have e3 : x 3 = (.pointer (some ⟨gc, oc + i, none⟩)) := hV 3 (by decide)
                have q4 := hS.1; have q5 := hS.2.1; obtain ⟨q2, q3⟩ := hS.2.2.1.two
                go_simp
                exact hK.out _ _ _ rfl rfl rfl (Below.refl _ _)
              simp only [zD, zE, zF]
              refine obs_step (Eq.trans (by simp only [zA, zB, zC]; exact rfl) rfl) rfl (fun w' hS hV K hK => ?_) ?_
              · have q4 := hS.1; have q5 := hS.2.1; obtain ⟨q2, q3⟩ := hS.2.2.1.two
                go_simp
                exact hK.out _ _ _ rfl rfl rfl (Below.refl _ _)
              simp only [zD, zE, zF]
              refine obs_step (Eq.trans (by simp only [zA, zB, zC]; exact rfl) rfl) rfl (fun w' hS hV K hK => ?_) ?_
              · have q4 := hS.1; have q5 := hS.2.1; obtain ⟨q2, q3⟩ := hS.2.2.1.two
                go_simp
                exact hK.out _ _ _ rfl rfl rfl (Below.refl _ _)
              simp only [zD, zE, zF]
              refine obs_step (Eq.trans (by simp only [zA, zB, zC]; exact rfl) rfl) rfl (fun w' hS hV K hK => ?_) ?_
              · have e5 : x 5 = (.slice (some ⟨gc, oc, none⟩) n c4) := hV 5 (by decide)
                have e6 : x 6 = (.int .i64 (k)) := hV 6 (by decide)
                have q4 := hS.1; have q5 := hS.2.1; obtain ⟨q2, q3⟩ := hS.2.2.1.two
                go_simp
                exact hK.out _ _ _ rfl rfl rfl (Below.refl _ _)
              simp only [zD, zE, zF]
              refine obs_step (Eq.trans (by simp only [zA, zB, zC]; exact rfl) rfl) rfl (fun w' hS hV K hK => ?_) ?_
              · have e7 : x 7 = (.pointer (some ⟨gc, oc + k, none⟩)) := hV 7 (by decide)
                have q4 := hS.1; have q5 := hS.2.1; obtain ⟨q2, q3⟩ := hS.2.2.1.two
                go_simp
                exact hK.out _ _ _ rfl rfl rfl (Below.refl _ _)
              simp only [zD, zE, zF]
              refine obs_step (Eq.trans (by simp only [zA, zB, zC]; exact rfl) rfl) rfl (fun w' hS hV K hK => ?_) ?_
              · have e0 : x 0 = (.agg #[.int .i64 P, .slice A n c]) := hV 0 (by decide)
                have e4 : x 4 = (.slice Ai n ci) := hV 4 (by decide)
                have e8 : x 8 = (.slice Ak n ck) := hV 8 (by decide)
                have q4 := hS.1; have q5 := hS.2.1; obtain ⟨q2, q3⟩ := hS.2.2.1.two
                go_simp
                refine (HPR.out _ hS.2.2.2).mono ?_
                rintro e v1 ⟨rfl, hb⟩
                exact hK.out _ _ _ rfl rfl rfl hb
              simp only [zD, zE, zF]
              refine obs_step (Eq.trans (by simp only [zA, zB, zC]; exact rfl) rfl) rfl (fun w' hS hV K hK => ?_) ?_
              · have q4 := hS.1; have q5 := hS.2.1; obtain ⟨q2, q3⟩ := hS.2.2.1.two
                go_simp
                exact hK.out _ _ _ rfl rfl rfl (Below.refl _ _)
              simp only [zD, zE, zF]
              refine obs_step (Eq.trans (by simp only [zA, zB, zC]; exact rfl) rfl) rfl (fun w' hS hV K hK => ?_) ?_
              · have e9 : x 9 = (.int .i64 (z)) := hV 9 (by decide)
                have e10 : x 10 = (.int .i64 (0)) := hV 10 (by decide)
                have q4 := hS.1; have q5 := hS.2.1; obtain ⟨q2, q3⟩ := hS.2.2.1.two
                go_simp
                exact hK.out _ _ _ rfl rfl rfl (Below.refl _ _)
              simp only [zD, zE, zF]
              refine fun w' hS hV => ?_
              have e0 : x 0 = (.agg #[.int .i64 P, .slice A n c]) := hV 0 (by decide)
              have e1 : x 1 = (.slice (some ⟨gc, oc, none⟩) n c4) := hV 1 (by decide)
              have e2 : x 2 = (.int .i64 (i)) := hV 2 (by decide)
              have e3 : x 3 = (.pointer (some ⟨gc, oc + i, none⟩)) := hV 3 (by decide)
              have e4 : x 4 = (.slice Ai n ci) := hV 4 (by decide)
              have e5 : x 5 = (.slice (some ⟨gc, oc, none⟩) n c4) := hV 5 (by decide)
              have e6 : x 6 = (.int .i64 (k)) := hV 6 (by decide)
              have e7 : x 7 = (.pointer (some ⟨gc, oc + k, none⟩)) := hV 7 (by decide)
              have e8 : x 8 = (.slice Ak n ck) := hV 8 (by decide)
              have e9 : x 9 = (.int .i64 (z)) := hV 9 (by decide)
              have e10 : x 10 = (.int .i64 (0)) := hV 10 (by decide)
              have e11 : x 11 = (.bool t) := hV 11 (by decide)
              simp only [e0, e1, e2, e3, e4, e5, e6, e7, e8, e9, e10, e11]
              clear e0 e1 e2 e3 e4 e5 e6 e7 e8 e9 e10 e11
              refine wpAny_done (by kernel_rfl) ?_ _
              have hB6 := hS.2.2.2
              clear hS hci hck l5 k5 q0 q1 q2 q3 ht1 t9
              cases t
              · have HZ1 := Lib.hid (HZ.out.2 rfl)
                clear HZ
                go_wp2
                go_roundw
                case rel => exact ⟨k + 1, by omega, by go_num, hbw.trans (hB6.mono hbw.size), HZ1⟩
                case measure => simp [intOf]; omega
              · obtain rfl : R = false := HZ.out.1 rfl
                clear HZ
                go_wp2
                go_ret
                exact ⟨rfl, hB5.trans (hB6.mono hB5.size)⟩
          · have HK1 : Hid (isTo P sq M (fun a => a + 1) (i + 1) 0) := Lib.hid (HK.out.row (show k = i + 1 by omega))
            go_wp2
            go_roundw
            case rel => exact ⟨i + 1, by omega, by go_num, hbw, HK1⟩
            case measure => simp [intOf]; omega
      · obtain rfl : R = true := by
          rw [HR.out]
          have h := HI.out
          rw [show i = sq.length by rw [HSL.out]; omega] at h
          exact h.half (by omega) HFR.out HDN.out
        go_wp2
        go_ret
        exact ⟨rfl, hB4.trans (hbr.mono hB4.size)⟩
  · obtain rfl : R = false := HB.out.1 rfl
    clear HB
    go_wp2
    go_ret
    exact ⟨rfl, hB3⟩
end Go.Proofs.YtdbibmilicjllaaGreat
namespace Go.Proofs.YtdbibmilicjllaaGreat
open Go.RowKit
theorem isIsometry_any (P : Int) (A : Option Addr) (n c : Nat) (sq : List Int) (D : Option Addr) (r d : Nat) (M : List (List Int)) (m : Nat) (w : World) (hsp : isSp P sq = true) (hr0 : 0 < r) (hr : r ≤ 16) (hm1 : 1 ≤ m) (hm : m ≤ 16) (ha : Rd w A n (ints sq)) (hd : RdII w D r M) (hM : Rect m M) :
    Calls Tryz.prog 147 #[.agg #[.int .i64 P, .slice A n c], .agg #[.int .i64 P, .slice A n c], .slice D r d] w fun e w' => e = .returned (.bool (isoB P sq M)) ∧ Below w.heap.size w w' := by
  have hsl := ha.lenI
  obtain ⟨HP, hd1, hd2, hnum⟩ := isSp_dim hsp
  obtain ⟨hp3, hp2⟩ := isP_ge HP
  have hl := hd.len
  have e := frB_rect (P := P) (n := sq.length) hM (by omega)
  rw [hl, hsl] at e
  cases hb : (M.all fun r => nums P r)
  · rw [is_frame (by rw [hsl, e, hb]; rfl)]
    exact isIsometry_0 P A n c sq D r d M m w (by omega) hp2 hr0 hr hm1 hm hd hM hb
    
    
  · by_cases h1 : r = n
    · by_cases h2 : m = n
      · subst h1
        subst h2
        exact isIsometry_sq P A m c sq D d M w HP (by omega) (by omega) ha (nums_numsL hnum) hd (hM.tab hb)
      · rw [is_frame (by rw [hsl, e, hb, decide_eq_true h1, decide_eq_false h2]; rfl)]
        exact isIsometry_2 P A n c sq D r d M m w (by omega) hp2 hr0 hr hm1 hm hd hM hb h1 h2
    · rw [is_frame (by rw [hsl, e, hb, decide_eq_false h1]; rfl)]
      exact isIsometry_1 P A n c sq D r d M m w (by omega) hp2 hr0 hr hm1 hm hd hM hb h1
theorem l03Isometry_any (P : Int) (A : Option Addr) (n c : Nat) (sq : List Int) (D : Option Addr) (r d : Nat) (M : List (List Int)) (m : Nat) (w : World) (hsp : isSp P sq = true) (hr0 : 0 < r) (hr : r ≤ 16) (hm1 : 1 ≤ m) (hm : m ≤ 16) (ha : Rd w A n (ints sq)) (hd : RdII w D r M) (hM : Rect m M) :
    Calls Tryz.prog 332 #[.agg #[.int .i64 P, .slice A n c], .agg #[.int .i64 P, .slice A n c], .slice D r d] w fun e w' => e = .returned (.bool (isoB P sq M)) ∧ Below w.heap.size w w' := by
  have hsl := ha.lenI
  obtain ⟨HP, hd1, hd2, hnum⟩ := isSp_dim hsp
  obtain ⟨hp3, hp2⟩ := isP_ge HP
  have hl := hd.len
  have e := frB_rect (P := P) (n := sq.length) hM (by omega)
  rw [hl, hsl] at e
  cases hb : (M.all fun r => nums P r)
  · rw [is_frame (by rw [hsl, e, hb]; rfl)]
    by_cases h1 : r = n
    · exact l03Isometry_1 P A n c sq D r d M m w HP hr0 hr hm1 hm hd hM h1 hb
    · exact l03Isometry_0 P A n c sq D r d M m w HP hr0 hr hm1 hm hd hM h1
  · by_cases h1 : r = n
    · by_cases h2 : m = n
      · subst h1
        subst h2
        exact l03Isometry_sq P A m c sq D d M w HP (by omega) (by omega) ha (nums_numsL hnum) hd (hM.tab hb)
      · rw [is_frame (by rw [hsl, e, hb, decide_eq_true h1, decide_eq_false h2]; rfl)]
        exact l03Isometry_2 P A n c sq D r d M m w HP hr0 hr hm1 hm hd hM hb h1 h2
    · rw [is_frame (by rw [hsl, e, hb, decide_eq_false h1]; rfl)]
      exact l03Isometry_0 P A n c sq D r d M m w HP hr0 hr hm1 hm hd hM h1
set_option maxHeartbeats 800000 in
set_option maxRecDepth 8000 in
theorem l08Is_any (P : Int) (A : Option Addr) (n c : Nat) (sq : List Int) (D : Option Addr) (r d : Nat) (M : List (List Int)) (m : Nat) (w : World) (hsp : isSp P sq = true) (hr0 : 0 < r) (hr : r ≤ 16) (hm1 : 1 ≤ m) (hm : m ≤ 16) (ha : Rd w A n (ints sq)) (hd : RdII w D r M) (hM : Rect m M) :
    Calls Tryz.prog 152 #[.agg #[.int .i64 P, .slice A n c], .slice D r d] w fun e w' => e = .returned (.bool (isoB P sq M)) ∧ Below w.heap.size w w' := by
  have hB0 : Below w.heap.size w (w.alloc (.cells #[.int .i64 P, .slice A n c] 26)) := (Below.refl _ _).alloc (Nat.le_refl _) _
  have k0 : Blk (w.alloc (.cells #[.int .i64 P, .slice A n c] 26)) w.heap.size 26 #[.int .i64 P, .slice A n c] := Blk.new _ _ _
  have h := l03Isometry_any P A n c sq D r d M m (w.alloc (.cells #[.int .i64 P, .slice A n c] 26)) hsp hr0 hr hm1 hm (ha.below hB0) (hd.below hB0) hM
  obtain ⟨R, hR⟩ : ∃ b, b = isoB P sq M := ⟨_, rfl⟩
  rw [← hR] at h ⊢
  clear hM hsp hR
  obtain ⟨q0, q1⟩ := k0.two
  go_enter Tryz.func152, Tryz.ntmps152
  go_wp2_with fail
  refine h.mono ?_
  rintro e w2 ⟨rfl, hb2⟩
  go_wp2
  go_ret
  exact ⟨rfl, hB0.trans (hb2.mono hB0.size)⟩
/-- The code of a regular space and an isometry. -/
def codeO (P : Int) (sq : List Int) (M : List (List Int)) : Int := if isSp P sq then (if regB sq then (if isoB P sq M then 0 else 2) else 5) else 1
theorem codeO_mk {P : Int} {sq : List Int} {M : List (List Int)} (h1 : isSp P sq = true) (h2 : regB sq = true) (h3 : isoB P sq M = true) : codeO P sq M = 0 := by
  unfold codeO; rw [if_pos h1, if_pos h2, if_pos h3]
theorem isoB_frame {P : Int} {sq : List Int} {M : List (List Int)} (h : isoB P sq M = true) : M.length = sq.length ∧ Tab P sq.length M := by
  unfold isoB at h
  rw [Bool.and_eq_true] at h
  exact frB_iff.1 h.1
set_option maxHeartbeats 1600000 in
set_option maxRecDepth 8000 in
theorem checkOrthogonal_any (P : Int) (A : Option Addr) (n c : Nat) (sq : List Int) (D : Option Addr) (r d : Nat) (M : List (List Int)) (m : Nat) (w : World) (hn : n ≤ 1048576) (hr0 : 0 < r) (hr : r ≤ 16) (hm1 : 1 ≤ m) (hm : m ≤ 16) (ha : Rd w A n (ints sq)) (hd : RdII w D r M) (hM : Rect m M) :
    Calls Tryz.prog 148 #[.agg #[.int .i64 P, .slice A n c], .slice D r d] w fun e w' => e = .returned (.int .i64 (codeO P sq M)) ∧ Below w.heap.size w w' := by
  have hB0 : Below w.heap.size w (w.alloc (.cells #[.int .i64 P, .slice A n c] 26)) := (Below.refl _ _).alloc (Nat.le_refl _) _
  have k0 : Blk (w.alloc (.cells #[.int .i64 P, .slice A n c] 26)) w.heap.size 26 #[.int .i64 P, .slice A n c] := Blk.new _ _ _
  have his := IsSpace_any P A n c sq (w.alloc (.cells #[.int .i64 P, .slice A n c] 26)) (by omega) (ha.below hB0)
  have hrg := Lib.hid fun w' (h : Below w.heap.size w w') => regular_any P A n c sq w' (by omega) (ha.below h)
  cases h1 : isSp P sq
  · rw [h1] at his
    obtain ⟨V, hV⟩ : ∃ V, V = codeO P sq M := ⟨_, rfl⟩
    rw [← hV]
    obtain rfl : V = 1 := hV.trans (by unfold codeO; rw [h1]; rfl)
    clear hV h1 hM hrg hd
    go_enter Tryz.func148, Tryz.ntmps148
    obtain ⟨q0, q1⟩ := k0.two
    go_wp2_with fail
    refine his.mono ?_
    rintro e w2 ⟨rfl, hb2⟩
    have hB2 := hB0.trans (hb2.mono hB0.size)
    have k2 := k0.below hb2 k0.lt
    clear q0 q1
    go_wp2
    go_ret
    exact ⟨rfl, hB2⟩
  · rw [h1] at his
    have hiso := Lib.hid fun w' (h : Below w.heap.size w w') => isIsometry_any P A n c sq D r d M m w' h1 hr0 hr hm1 hm (ha.below h) (hd.below h) hM
    cases h2 : regB sq
    · rw [h2] at hrg
      obtain ⟨V, hV⟩ : ∃ V, V = codeO P sq M := ⟨_, rfl⟩
      rw [← hV]
      obtain rfl : V = 5 := hV.trans (by unfold codeO; rw [h1, h2]; rfl)
      clear hV h1 h2 hM hd hiso
      go_enter Tryz.func148, Tryz.ntmps148
      obtain ⟨q0, q1⟩ := k0.two
      go_wp2_with fail
      refine his.mono ?_
      rintro e w2 ⟨rfl, hb2⟩
      have hB2 := hB0.trans (hb2.mono hB0.size)
      have k2 := k0.below hb2 k0.lt
      clear q0 q1
      obtain ⟨q0, q1⟩ := k2.two
      go_wp2_with fail
      refine (hrg.out w2 hB2).mono ?_
      rintro e w3 ⟨rfl, hb3⟩
      have hB3 := hB2.trans (hb3.mono hB2.size)
      have k3 := k2.below hb3 k2.lt
      clear q0 q1
      go_wp2
      go_ret
      exact ⟨rfl, hB3⟩
    · rw [h2] at hrg
      cases h3 : isoB P sq M
      · rw [h3] at hiso
        obtain ⟨V, hV⟩ : ∃ V, V = codeO P sq M := ⟨_, rfl⟩
        rw [← hV]
        obtain rfl : V = 2 := hV.trans (by unfold codeO; rw [h1, h2, h3]; rfl)
        clear hV h1 h2 h3 hM hd
        go_enter Tryz.func148, Tryz.ntmps148
        obtain ⟨q0, q1⟩ := k0.two
        go_wp2_with fail
        refine his.mono ?_
        rintro e w2 ⟨rfl, hb2⟩
        have hB2 := hB0.trans (hb2.mono hB0.size)
        have k2 := k0.below hb2 k0.lt
        clear q0 q1
        obtain ⟨q0, q1⟩ := k2.two
        go_wp2_with fail
        refine (hrg.out w2 hB2).mono ?_
        rintro e w3 ⟨rfl, hb3⟩
        have hB3 := hB2.trans (hb3.mono hB2.size)
        have k3 := k2.below hb3 k2.lt
        clear q0 q1
        obtain ⟨q0, q1⟩ := k3.two
        go_wp2_with fail
        refine (hiso.out w3 hB3).mono ?_
        rintro e w4 ⟨rfl, hb4⟩
        have hB4 := hB3.trans (hb4.mono hB3.size)
        have k4 := k3.below hb4 k3.lt
        clear q0 q1
        go_wp2
        go_ret
        exact ⟨rfl, hB4⟩
      · rw [h3] at hiso
        obtain ⟨V, hV⟩ : ∃ V, V = codeO P sq M := ⟨_, rfl⟩
        rw [← hV]
        obtain rfl : V = 0 := hV.trans (by unfold codeO; rw [h1, h2, h3]; rfl)
        clear hV h1 h2 h3 hM hd
        go_enter Tryz.func148, Tryz.ntmps148
        obtain ⟨q0, q1⟩ := k0.two
        go_wp2_with fail
        refine his.mono ?_
        rintro e w2 ⟨rfl, hb2⟩
        have hB2 := hB0.trans (hb2.mono hB0.size)
        have k2 := k0.below hb2 k0.lt
        clear q0 q1
        obtain ⟨q0, q1⟩ := k2.two
        go_wp2_with fail
        refine (hrg.out w2 hB2).mono ?_
        rintro e w3 ⟨rfl, hb3⟩
        have hB3 := hB2.trans (hb3.mono hB2.size)
        have k3 := k2.below hb3 k2.lt
        clear q0 q1
        obtain ⟨q0, q1⟩ := k3.two
        go_wp2_with fail
        refine (hiso.out w3 hB3).mono ?_
        rintro e w4 ⟨rfl, hb4⟩
        have hB4 := hB3.trans (hb4.mono hB3.size)
        have k4 := k3.below hb4 k3.lt
        clear q0 q1
        go_wp2
        go_ret
        exact ⟨rfl, hB4⟩
set_option maxHeartbeats 1600000 in
set_option maxRecDepth 8000 in
theorem IsOrthogonal_ok (P : Int) (A : Option Addr) (n c : Nat) (sq : List Int) (D : Option Addr) (d : Nat) (M : List (List Int)) (w : World) (hsp : isSp P sq = true) (hreg : regB sq = true) (ha : Rd w A n (ints sq)) (hd : RdII w D n M) (hiso : isoB P sq M = true) :
    Calls Tryz.prog 19 #[.agg #[.int .i64 P, .slice A n c], .slice D n d] w fun e w' => e = .returned (.tuple #[.bool true, .int .i64 0]) ∧ Below w.heap.size w w' := by
  have hB0 : Below w.heap.size w (w.alloc (.cells #[.int .i64 P, .slice A n c] 26)) := (Below.refl _ _).alloc (Nat.le_refl _) _
  have k0 : Blk (w.alloc (.cells #[.int .i64 P, .slice A n c] 26)) w.heap.size 26 #[.int .i64 P, .slice A n c] := Blk.new _ _ _
  have hsl := ha.lenI
  obtain ⟨HP, hd1, hd2, hnum⟩ := isSp_dim hsp
  obtain ⟨hp3, hp2⟩ := isP_ge HP
  obtain ⟨hl, hT⟩ := isoB_frame hiso
  rw [hsl] at hd1 hd2 hl hT
  have his := IsSpace_any P A n c sq (w.alloc (.cells #[.int .i64 P, .slice A n c] 26)) (by omega) (ha.below hB0)
  rw [hsp] at his
  have hrg := Lib.hid fun w' (h : Below w.heap.size w w') => regular_any P A n c sq w' (by omega) (ha.below h)
  rw [hreg] at hrg
  have hii := Lib.hid fun w' (h : Below w.heap.size w w') => isIsometry_any P A n c sq D n d M n w' hsp hd1 (by omega) hd1 (by omega) (ha.below h) (hd.below h) (Rect.of_tab hT)
  rw [hiso] at hii
  clear hsp hreg hiso hT hl hsl hnum HP
  go_enter Tryz.func19, Tryz.ntmps19
  obtain ⟨q0, q1⟩ := k0.two
  go_wp2_with fail
  refine his.mono ?_
  rintro e w2 ⟨rfl, hb2⟩
  have hB2 := hB0.trans (hb2.mono hB0.size)
  have k2 := k0.below hb2 k0.lt
  clear q0 q1
  obtain ⟨q0, q1⟩ := k2.two
  go_wp2_with fail
  refine (hrg.out w2 hB2).mono ?_
  rintro e w3 ⟨rfl, hb3⟩
  have hB3 := hB2.trans (hb3.mono hB2.size)
  have k3 := k2.below hb3 k2.lt
  clear q0 q1
  obtain ⟨q0, q1⟩ := k3.two
  go_wp2_with fail
  refine (hii.out w3 hB3).mono ?_
  rintro e w4 ⟨rfl, hb4⟩
  have hB4 := hB3.trans (hb4.mono hB3.size)
  have k4 := k3.below hb4 k3.lt
  clear q0 q1
  go_wp2
  go_ret2
  exact ⟨rfl, hB4⟩
set_option maxHeartbeats 1600000 in
set_option maxRecDepth 8000 in
theorem IsProper_ok (P : Int) (A : Option Addr) (n c : Nat) (sq : List Int) (D : Option Addr) (d : Nat) (M : List (List Int)) (w : World) (hsp : isSp P sq = true) (hreg : regB sq = true) (ha : Rd w A n (ints sq)) (hd : RdII w D n M) (hiso : isoB P sq M = true) :
    Calls Tryz.prog 20 #[.agg #[.int .i64 P, .slice A n c], .slice D n d] w fun e w' => e = .returned (.tuple #[.bool (detL P M == 1), .int .i64 0]) ∧ Below w.heap.size w w' := by
  have hB0 : Below w.heap.size w (w.alloc (.cells #[.int .i64 P, .slice A n c] 26)) := (Below.refl _ _).alloc (Nat.le_refl _) _
  have k0 : Blk (w.alloc (.cells #[.int .i64 P, .slice A n c] 26)) w.heap.size 26 #[.int .i64 P, .slice A n c] := Blk.new _ _ _
  have hsl := ha.lenI
  obtain ⟨HP, hd1, hd2, hnum⟩ := isSp_dim hsp
  obtain ⟨hp3, hp2⟩ := isP_ge HP
  obtain ⟨hl, hT⟩ := isoB_frame hiso
  rw [hsl] at hd1 hd2 hl hT
  have hck := checkOrthogonal_any P A n c sq D n d M n (w.alloc (.cells #[.int .i64 P, .slice A n c] 26)) (by omega) hd1 (by omega) hd1 (by omega) (ha.below hB0) (hd.below hB0) (Rect.of_tab hT)
  rw [codeO_mk hsp hreg hiso] at hck
  have hde := Lib.hid fun w' (h : Below w.heap.size w w') => determinant_any P D n d M w' HP hd1 (by omega) (hd.below h) hT
  have hfi := Lib.hid fun w' => field_any P A n c w'
  obtain ⟨z, hz⟩ : ∃ z, z = detL P M := ⟨_, rfl⟩
  rw [← hz] at hde ⊢
  obtain ⟨b, hb⟩ : ∃ b, b = (z == 1) := ⟨_, rfl⟩
  rw [← hb]
  have hb9 : (z == 1) = b := hb.symm
  clear hsp hreg hiso hT hl hsl hnum HP hz hb
  go_enter Tryz.func20, Tryz.ntmps20
  obtain ⟨q0, q1⟩ := k0.two
  go_wp2_with fail
  refine hck.mono ?_
  rintro e w2 ⟨rfl, hb2⟩
  have hB2 := hB0.trans (hb2.mono hB0.size)
  have k2 := k0.below hb2 k0.lt
  clear q0 q1
  obtain ⟨q0, q1⟩ := k2.two
  go_wp2_with fail
  refine (hfi.out _).mono ?_
  rintro e w3 ⟨rfl, hb3⟩
  have hB3 := hB2.trans (hb3.mono hB2.size)
  go_wp2_with fail
  refine (hde.out w3 hB3).mono ?_
  rintro e w4 ⟨rfl, hb4⟩
  go_wp2
  go_ret2
  exact ⟨rfl, hB3.trans (hb4.mono hB3.size)⟩
end Go.Proofs.YtdbibmilicjllaaGreat
namespace Go.Proofs.YtdbibmilicjllaaGreat
open Go.RowKit
theorem cofR_eq {P : Int} {sq : List Int} {M : List (List Int)} (h : codeF P sq M = 0) : cofR P sq M = if skewB P sq M && decide (detL P (onePl P M 1) ≠ 0) then (cayL P M, 0) else ([], 5) := by unfold cofR; rw [if_pos h]
theorem cobR_eq {P : Int} {sq : List Int} {M : List (List Int)} (h : codeF P sq M = 0) : cobR P sq M = if isoB P sq M && decide (detL P (onePl P M 1) ≠ 0) then (cayL P M, 0) else ([], 5) := by unfold cobR; rw [if_pos h]
set_option maxHeartbeats 3200000 in
theorem CayleyOf_any (P : Int) (A : Option Addr) (n c : Nat) (sq : List Int) (D : Option Addr) (r d : Nat) (M : List (List Int)) (m : Nat) (w : World) (hn : n ≤ 1048576) (hr0 : 0 < r) (hr : r ≤ 16) (hm1 : 1 ≤ m) (hm : m ≤ 16) (ha : Rd w A n (ints sq)) (hd : RdII w D r M) (hM : Rect m M) :
    Calls Tryz.prog 16 #[.agg #[.int .i64 P, .slice A n c], .slice D r d] w fun e w' => ∃ (A' : Option Addr) (k c' : Nat), e = .returned (.tuple #[.slice A' k c', .int .i64 (cofR P sq M).2]) ∧ MkII w w' A' k c' (cofR P sq M).1 := by
  have hB0 : Below w.heap.size w (w.alloc (.cells #[.int .i64 P, .slice A n c] 26)) := (Below.refl _ _).alloc (Nat.le_refl _) _
  have k0 : Blk (w.alloc (.cells #[.int .i64 P, .slice A n c] 26)) w.heap.size 26 #[.int .i64 P, .slice A n c] := Blk.new _ _ _
  have hck := checkFrame_any P A n c sq D r d M m (w.alloc (.cells #[.int .i64 P, .slice A n c] 26)) hr0 hr hm1 hm hn (ha.below hB0) (hd.below hB0) hM
  obtain ⟨RV, hRV⟩ : ∃ R, R = cofR P sq M := ⟨_, rfl⟩
  rw [← hRV]
  by_cases hc : codeF P sq M = 0
  · rw [hc] at hck
    have hRES := cofR_eq hc
    rw [← hRV] at hRES
    obtain ⟨h1, h2, h3, h4⟩ := codeF_zero hc
    have hsl := ha.lenI
    rw [hsl] at h3 h4
    obtain rfl : n = r := (hd.len.symm.trans h3).symm
    obtain ⟨HP, hd1, hd2, hnum⟩ := isSp_dim h1
    obtain ⟨hp3, hp2⟩ := isP_ge HP
    rw [hsl] at hd1 hd2
    have HNUM := Lib.hid (nums_numsL hnum)
    have HT := Lib.hid h4
    obtain ⟨sb, hsb⟩ : ∃ b, b = skewB P sq M := ⟨_, rfl⟩
    obtain ⟨b, hb⟩ : ∃ b, b = decide (detL P (onePl P M 1) ≠ 0) := ⟨_, rfl⟩
    obtain ⟨Z, hZ⟩ : ∃ Z, Z = if detL P (onePl P M 1) ≠ 0 then cayL P M else [] := ⟨_, rfl⟩
    have HTS := Lib.hid fun w' (h : Below w.heap.size w w') => isSkew_any P A n c sq D d M w' (by omega) hp2 hd2 (ha.below h) HNUM.out (hd.below h) HT.out
    have HCY := Lib.hid fun w' (h : Below w.heap.size w w') => cayley_any P A n c sq D d M w' HP hd1 hd2 (hd.below h) HT.out
    rw [← hsb] at HTS
    rw [← hb, ← hZ] at HCY
    have hZb : b = true → cayL P M = Z := fun e => by rw [hZ, if_pos (of_decide_eq_true (hb.symm.trans e))]
    rw [← hsb, ← hb] at hRES
    replace hRES : RV = if sb && b then (Z, 0) else ([], 5) := by
      cases b
      · simpa using hRES
      · rw [hRES, hZb rfl]
    clear hZb hZ hb hsb HNUM HT hnum HP hsl h1 h2 h3 h4 hc hRV hM hd ha
    cases sb
    · cases b
      · have HRES : Hid (RV = ([], 5)) := Lib.hid (by rw [hRES]; rfl)
        clear hRES
        go_enter Tryz.func16, Tryz.ntmps16
        obtain ⟨q0, q1⟩ := k0.two
        go_wp2_with fail
        refine hck.mono ?_
        rintro e w2 ⟨rfl, hb2⟩
        have hB2 := hB0.trans (hb2.mono hB0.size)
        have k2 := k0.below hb2 k0.lt
        clear q0 q1
        obtain ⟨q0, q1⟩ := k2.two
        go_wp2_with fail
        refine (HCY.out _ hB2).mono ?_
        rintro e w3 ⟨A9, k9, c9, rfl, hM9⟩
        have hB3 := hB2.trans (hM9.b.mono hB2.size)
        have k3 := k2.below hM9.b k2.lt
        have hM3 := hM9.after hB2
        clear q0 q1 hM9
        obtain ⟨q0, q1⟩ := k3.two
        go_wp2_with fail
        refine (HTS.out w3 hB3).mono ?_
        rintro e w4 ⟨rfl, hb4⟩
        have hB4 := hB3.trans (hb4.mono hB3.size)
        have k4 := k3.below hb4 k3.lt
        clear q0 q1
        go_wp2
        go_ret2
        obtain rfl : RV = ([], 5) := HRES.out
        exact ⟨none, 0, 0, rfl, MkII.nil hB4⟩
      · have HRES : Hid (RV = ([], 5)) := Lib.hid (by rw [hRES]; rfl)
        clear hRES
        go_enter Tryz.func16, Tryz.ntmps16
        obtain ⟨q0, q1⟩ := k0.two
        go_wp2_with fail
        refine hck.mono ?_
        rintro e w2 ⟨rfl, hb2⟩
        have hB2 := hB0.trans (hb2.mono hB0.size)
        have k2 := k0.below hb2 k0.lt
        clear q0 q1
        obtain ⟨q0, q1⟩ := k2.two
        go_wp2_with fail
        refine (HCY.out _ hB2).mono ?_
        rintro e w3 ⟨A9, k9, c9, rfl, hM9⟩
        have hB3 := hB2.trans (hM9.b.mono hB2.size)
        have k3 := k2.below hM9.b k2.lt
        have hM3 := hM9.after hB2
        clear q0 q1 hM9
        obtain ⟨q0, q1⟩ := k3.two
        go_wp2_with fail
        refine (HTS.out w3 hB3).mono ?_
        rintro e w4 ⟨rfl, hb4⟩
        have hB4 := hB3.trans (hb4.mono hB3.size)
        have k4 := k3.below hb4 k3.lt
        clear q0 q1
        go_wp2
        go_ret2
        obtain rfl : RV = ([], 5) := HRES.out
        exact ⟨none, 0, 0, rfl, MkII.nil hB4⟩
    · cases b
      · have HRES : Hid (RV = ([], 5)) := Lib.hid (by rw [hRES]; rfl)
        clear hRES
        go_enter Tryz.func16, Tryz.ntmps16
        obtain ⟨q0, q1⟩ := k0.two
        go_wp2_with fail
        refine hck.mono ?_
        rintro e w2 ⟨rfl, hb2⟩
        have hB2 := hB0.trans (hb2.mono hB0.size)
        have k2 := k0.below hb2 k0.lt
        clear q0 q1
        obtain ⟨q0, q1⟩ := k2.two
        go_wp2_with fail
        refine (HCY.out _ hB2).mono ?_
        rintro e w3 ⟨A9, k9, c9, rfl, hM9⟩
        have hB3 := hB2.trans (hM9.b.mono hB2.size)
        have k3 := k2.below hM9.b k2.lt
        have hM3 := hM9.after hB2
        clear q0 q1 hM9
        obtain ⟨q0, q1⟩ := k3.two
        go_wp2_with fail
        refine (HTS.out w3 hB3).mono ?_
        rintro e w4 ⟨rfl, hb4⟩
        have hB4 := hB3.trans (hb4.mono hB3.size)
        have k4 := k3.below hb4 k3.lt
        clear q0 q1
        go_wp2
        go_ret2
        obtain rfl : RV = ([], 5) := HRES.out
        exact ⟨none, 0, 0, rfl, MkII.nil hB4⟩
      · have HRES : Hid (RV = (Z, 0)) := Lib.hid (by rw [hRES]; rfl)
        clear hRES
        go_enter Tryz.func16, Tryz.ntmps16
        obtain ⟨q0, q1⟩ := k0.two
        go_wp2_with fail
        refine hck.mono ?_
        rintro e w2 ⟨rfl, hb2⟩
        have hB2 := hB0.trans (hb2.mono hB0.size)
        have k2 := k0.below hb2 k0.lt
        clear q0 q1
        obtain ⟨q0, q1⟩ := k2.two
        go_wp2_with fail
        refine (HCY.out _ hB2).mono ?_
        rintro e w3 ⟨A9, k9, c9, rfl, hM9⟩
        have hB3 := hB2.trans (hM9.b.mono hB2.size)
        have k3 := k2.below hM9.b k2.lt
        have hM3 := hM9.after hB2
        clear q0 q1 hM9
        obtain ⟨q0, q1⟩ := k3.two
        go_wp2_with fail
        refine (HTS.out w3 hB3).mono ?_
        rintro e w4 ⟨rfl, hb4⟩
        have hB4 := hB3.trans (hb4.mono hB3.size)
        have k4 := k3.below hb4 k3.lt
        clear q0 q1
        go_wp2
        go_ret2
        obtain rfl : RV = (Z, 0) := HRES.out
        exact ⟨_, _, _, rfl, hM3.below hb4⟩
  · obtain ⟨v, hv⟩ : ∃ v, v = codeF P sq M := ⟨_, rfl⟩
    rw [← hv] at hck
    have b0 : (v != 0) = true := code_ne (by rw [hv]; exact hc)
    have b1 : (v == 0) = false := by
      rw [beq_eq_false_iff_ne]; rw [hv]; exact hc
    have HRES : Hid (RV = ([], v)) := Lib.hid (by rw [hRV, cofR_bad hc, hv])
    clear hc hv hRV hM hd ha
    go_enter Tryz.func16, Tryz.ntmps16
    obtain ⟨q0, q1⟩ := k0.two
    go_wp2_with fail
    refine hck.mono ?_
    rintro e w2 ⟨rfl, hb2⟩
    have hB2 := hB0.trans (hb2.mono hB0.size)
    have k2 := k0.below hb2 k0.lt
    clear q0 q1
    go_wp2
    go_ret2
    obtain rfl : RV = ([], v) := HRES.out
    exact ⟨none, 0, 0, rfl, MkII.nil hB2⟩
set_option maxHeartbeats 3200000 in
theorem CayleyBack_any (P : Int) (A : Option Addr) (n c : Nat) (sq : List Int) (D : Option Addr) (r d : Nat) (M : List (List Int)) (m : Nat) (w : World) (hn : n ≤ 1048576) (hr0 : 0 < r) (hr : r ≤ 16) (hm1 : 1 ≤ m) (hm : m ≤ 16) (ha : Rd w A n (ints sq)) (hd : RdII w D r M) (hM : Rect m M) :
    Calls Tryz.prog 21 #[.agg #[.int .i64 P, .slice A n c], .slice D r d] w fun e w' => ∃ (A' : Option Addr) (k c' : Nat), e = .returned (.tuple #[.slice A' k c', .int .i64 (cobR P sq M).2]) ∧ MkII w w' A' k c' (cobR P sq M).1 := by
  have hB0 : Below w.heap.size w (w.alloc (.cells #[.int .i64 P, .slice A n c] 26)) := (Below.refl _ _).alloc (Nat.le_refl _) _
  have k0 : Blk (w.alloc (.cells #[.int .i64 P, .slice A n c] 26)) w.heap.size 26 #[.int .i64 P, .slice A n c] := Blk.new _ _ _
  have hck := checkFrame_any P A n c sq D r d M m (w.alloc (.cells #[.int .i64 P, .slice A n c] 26)) hr0 hr hm1 hm hn (ha.below hB0) (hd.below hB0) hM
  obtain ⟨RV, hRV⟩ : ∃ R, R = cobR P sq M := ⟨_, rfl⟩
  rw [← hRV]
  by_cases hc : codeF P sq M = 0
  · rw [hc] at hck
    have hRES := cobR_eq hc
    rw [← hRV] at hRES
    obtain ⟨h1, h2, h3, h4⟩ := codeF_zero hc
    have hsl := ha.lenI
    rw [hsl] at h3 h4
    obtain rfl : n = r := (hd.len.symm.trans h3).symm
    obtain ⟨HP, hd1, hd2, hnum⟩ := isSp_dim h1
    obtain ⟨hp3, hp2⟩ := isP_ge HP
    rw [hsl] at hd1 hd2
    have HNUM := Lib.hid (nums_numsL hnum)
    have HT := Lib.hid h4
    obtain ⟨sb, hsb⟩ : ∃ b, b = isoB P sq M := ⟨_, rfl⟩
    obtain ⟨b, hb⟩ : ∃ b, b = decide (detL P (onePl P M 1) ≠ 0) := ⟨_, rfl⟩
    obtain ⟨Z, hZ⟩ : ∃ Z, Z = if detL P (onePl P M 1) ≠ 0 then cayL P M else [] := ⟨_, rfl⟩
    have HTS := Lib.hid fun w' (h : Below w.heap.size w w') => isIsometry_any P A n c sq D n d M n w' h1 hd1 (by omega) hd1 (by omega) (ha.below h) (hd.below h) (Rect.of_tab HT.out)
    have HCY := Lib.hid fun w' (h : Below w.heap.size w w') => cayley_any P A n c sq D d M w' HP hd1 hd2 (hd.below h) HT.out
    rw [← hsb] at HTS
    rw [← hb, ← hZ] at HCY
    have hZb : b = true → cayL P M = Z := fun e => by rw [hZ, if_pos (of_decide_eq_true (hb.symm.trans e))]
    rw [← hsb, ← hb] at hRES
    replace hRES : RV = if sb && b then (Z, 0) else ([], 5) := by
      cases b
      · simpa using hRES
      · rw [hRES, hZb rfl]
    clear hZb hZ hb hsb HNUM HT hnum HP hsl h1 h2 h3 h4 hc hRV hM hd ha
    cases sb
    · cases b
      · have HRES : Hid (RV = ([], 5)) := Lib.hid (by rw [hRES]; rfl)
        clear hRES
        go_enter Tryz.func21, Tryz.ntmps21
        obtain ⟨q0, q1⟩ := k0.two
        go_wp2_with fail
        refine hck.mono ?_
        rintro e w2 ⟨rfl, hb2⟩
        have hB2 := hB0.trans (hb2.mono hB0.size)
        have k2 := k0.below hb2 k0.lt
        clear q0 q1
        obtain ⟨q0, q1⟩ := k2.two
        go_wp2_with fail
        refine (HCY.out _ hB2).mono ?_
        rintro e w3 ⟨A9, k9, c9, rfl, hM9⟩
        have hB3 := hB2.trans (hM9.b.mono hB2.size)
        have k3 := k2.below hM9.b k2.lt
        have hM3 := hM9.after hB2
        clear q0 q1 hM9
        obtain ⟨q0, q1⟩ := k3.two
        go_wp2_with fail
        refine (HTS.out w3 hB3).mono ?_
        rintro e w4 ⟨rfl, hb4⟩
        have hB4 := hB3.trans (hb4.mono hB3.size)
        have k4 := k3.below hb4 k3.lt
        clear q0 q1
        go_wp2
        go_ret2
        obtain rfl : RV = ([], 5) := HRES.out
        exact ⟨none, 0, 0, rfl, MkII.nil hB4⟩
      · have HRES : Hid (RV = ([], 5)) := Lib.hid (by rw [hRES]; rfl)
        clear hRES
        go_enter Tryz.func21, Tryz.ntmps21
        obtain ⟨q0, q1⟩ := k0.two
        go_wp2_with fail
        refine hck.mono ?_
        rintro e w2 ⟨rfl, hb2⟩
        have hB2 := hB0.trans (hb2.mono hB0.size)
        have k2 := k0.below hb2 k0.lt
        clear q0 q1
        obtain ⟨q0, q1⟩ := k2.two
        go_wp2_with fail
        refine (HCY.out _ hB2).mono ?_
        rintro e w3 ⟨A9, k9, c9, rfl, hM9⟩
        have hB3 := hB2.trans (hM9.b.mono hB2.size)
        have k3 := k2.below hM9.b k2.lt
        have hM3 := hM9.after hB2
        clear q0 q1 hM9
        obtain ⟨q0, q1⟩ := k3.two
        go_wp2_with fail
        refine (HTS.out w3 hB3).mono ?_
        rintro e w4 ⟨rfl, hb4⟩
        have hB4 := hB3.trans (hb4.mono hB3.size)
        have k4 := k3.below hb4 k3.lt
        clear q0 q1
        go_wp2
        go_ret2
        obtain rfl : RV = ([], 5) := HRES.out
        exact ⟨none, 0, 0, rfl, MkII.nil hB4⟩
    · cases b
      · have HRES : Hid (RV = ([], 5)) := Lib.hid (by rw [hRES]; rfl)
        clear hRES
        go_enter Tryz.func21, Tryz.ntmps21
        obtain ⟨q0, q1⟩ := k0.two
        go_wp2_with fail
        refine hck.mono ?_
        rintro e w2 ⟨rfl, hb2⟩
        have hB2 := hB0.trans (hb2.mono hB0.size)
        have k2 := k0.below hb2 k0.lt
        clear q0 q1
        obtain ⟨q0, q1⟩ := k2.two
        go_wp2_with fail
        refine (HCY.out _ hB2).mono ?_
        rintro e w3 ⟨A9, k9, c9, rfl, hM9⟩
        have hB3 := hB2.trans (hM9.b.mono hB2.size)
        have k3 := k2.below hM9.b k2.lt
        have hM3 := hM9.after hB2
        clear q0 q1 hM9
        obtain ⟨q0, q1⟩ := k3.two
        go_wp2_with fail
        refine (HTS.out w3 hB3).mono ?_
        rintro e w4 ⟨rfl, hb4⟩
        have hB4 := hB3.trans (hb4.mono hB3.size)
        have k4 := k3.below hb4 k3.lt
        clear q0 q1
        go_wp2
        go_ret2
        obtain rfl : RV = ([], 5) := HRES.out
        exact ⟨none, 0, 0, rfl, MkII.nil hB4⟩
      · have HRES : Hid (RV = (Z, 0)) := Lib.hid (by rw [hRES]; rfl)
        clear hRES
        go_enter Tryz.func21, Tryz.ntmps21
        obtain ⟨q0, q1⟩ := k0.two
        go_wp2_with fail
        refine hck.mono ?_
        rintro e w2 ⟨rfl, hb2⟩
        have hB2 := hB0.trans (hb2.mono hB0.size)
        have k2 := k0.below hb2 k0.lt
        clear q0 q1
        obtain ⟨q0, q1⟩ := k2.two
        go_wp2_with fail
        refine (HCY.out _ hB2).mono ?_
        rintro e w3 ⟨A9, k9, c9, rfl, hM9⟩
        have hB3 := hB2.trans (hM9.b.mono hB2.size)
        have k3 := k2.below hM9.b k2.lt
        have hM3 := hM9.after hB2
        clear q0 q1 hM9
        obtain ⟨q0, q1⟩ := k3.two
        go_wp2_with fail
        refine (HTS.out w3 hB3).mono ?_
        rintro e w4 ⟨rfl, hb4⟩
        have hB4 := hB3.trans (hb4.mono hB3.size)
        have k4 := k3.below hb4 k3.lt
        clear q0 q1
        go_wp2
        go_ret2
        obtain rfl : RV = (Z, 0) := HRES.out
        exact ⟨_, _, _, rfl, hM3.below hb4⟩
  · obtain ⟨v, hv⟩ : ∃ v, v = codeF P sq M := ⟨_, rfl⟩
    rw [← hv] at hck
    have b0 : (v != 0) = true := code_ne (by rw [hv]; exact hc)
    have b1 : (v == 0) = false := by
      rw [beq_eq_false_iff_ne]; rw [hv]; exact hc
    have HRES : Hid (RV = ([], v)) := Lib.hid (by rw [hRV, cobR_bad hc, hv])
    clear hc hv hRV hM hd ha
    go_enter Tryz.func21, Tryz.ntmps21
    obtain ⟨q0, q1⟩ := k0.two
    go_wp2_with fail
    refine hck.mono ?_
    rintro e w2 ⟨rfl, hb2⟩
    have hB2 := hB0.trans (hb2.mono hB0.size)
    have k2 := k0.below hb2 k0.lt
    clear q0 q1
    go_wp2
    go_ret2
    obtain rfl : RV = ([], v) := HRES.out
    exact ⟨none, 0, 0, rfl, MkII.nil hB2⟩
set_option maxHeartbeats 3200000 in
theorem specCayleyOf_any (P : Int) (A : Option Addr) (n c : Nat) (sq : List Int) (D : Option Addr) (r d : Nat) (M : List (List Int)) (m : Nat) (w : World) (hn : n ≤ 1048576) (hr0 : 0 < r) (hr : r ≤ 16) (hm1 : 1 ≤ m) (hm : m ≤ 16) (ha : Rd w A n (ints sq)) (hd : RdII w D r M) (hM : Rect m M) :
    Calls Tryz.prog 17 #[.agg #[.int .i64 P, .slice A n c], .slice D r d] w fun e w' => ∃ (A' : Option Addr) (k c' : Nat), e = .returned (.tuple #[.slice A' k c', .int .i64 (cofR P sq M).2]) ∧ MkII w w' A' k c' (cofR P sq M).1 := by
  have hB0 : Below w.heap.size w (w.alloc (.cells #[.int .i64 P, .slice A n c] 26)) := (Below.refl _ _).alloc (Nat.le_refl _) _
  have k0 : Blk (w.alloc (.cells #[.int .i64 P, .slice A n c] 26)) w.heap.size 26 #[.int .i64 P, .slice A n c] := Blk.new _ _ _
  have hck := l10Shape_any P A n c sq D r d M m (w.alloc (.cells #[.int .i64 P, .slice A n c] 26)) hr0 hr hm1 hm hn (ha.below hB0) (hd.below hB0) hM
  obtain ⟨RV, hRV⟩ : ∃ R, R = cofR P sq M := ⟨_, rfl⟩
  rw [← hRV]
  by_cases hc : codeF P sq M = 0
  · rw [hc] at hck
    have hRES := cofR_eq hc
    rw [← hRV] at hRES
    obtain ⟨h1, h2, h3, h4⟩ := codeF_zero hc
    have hsl := ha.lenI
    rw [hsl] at h3 h4
    obtain rfl : n = r := (hd.len.symm.trans h3).symm
    obtain ⟨HP, hd1, hd2, hnum⟩ := isSp_dim h1
    obtain ⟨hp3, hp2⟩ := isP_ge HP
    rw [hsl] at hd1 hd2
    have HNUM := Lib.hid (nums_numsL hnum)
    have HT := Lib.hid h4
    obtain ⟨sb, hsb⟩ : ∃ b, b = skewB P sq M := ⟨_, rfl⟩
    obtain ⟨b, hb⟩ : ∃ b, b = decide (detL P (onePl P M 1) ≠ 0) := ⟨_, rfl⟩
    obtain ⟨Z, hZ⟩ : ∃ Z, Z = if detL P (onePl P M 1) ≠ 0 then cayL P M else [] := ⟨_, rfl⟩
    have HTS := Lib.hid fun w' (h : Below w.heap.size w w') => l10Skew_any P A n c sq D d M w' (by omega) hp2 hd2 (ha.below h) HNUM.out (hd.below h) HT.out
    have HCY := Lib.hid fun w' (h : Below w.heap.size w w') => l10Cayley_any P D n d M w' HP hd1 hd2 (hd.below h) HT.out
    rw [← hsb] at HTS
    rw [← hb, ← hZ] at HCY
    have hZb : b = true → cayL P M = Z := fun e => by rw [hZ, if_pos (of_decide_eq_true (hb.symm.trans e))]
    rw [← hsb, ← hb] at hRES
    replace hRES : RV = if sb && b then (Z, 0) else ([], 5) := by
      cases b
      · simpa using hRES
      · rw [hRES, hZb rfl]
    clear hZb hZ hb hsb HNUM HT hnum HP hsl h1 h2 h3 h4 hc hRV hM hd ha
    cases sb
    · cases b
      · have HRES : Hid (RV = ([], 5)) := Lib.hid (by rw [hRES]; rfl)
        clear hRES
        go_enter Tryz.func17, Tryz.ntmps17
        obtain ⟨q0, q1⟩ := k0.two
        go_wp2_with fail
        refine hck.mono ?_
        rintro e w2 ⟨rfl, hb2⟩
        have hB2 := hB0.trans (hb2.mono hB0.size)
        have k2 := k0.below hb2 k0.lt
        clear q0 q1
        obtain ⟨q0, q1⟩ := k2.two
        go_wp2_with fail
        refine (HTS.out w2 hB2).mono ?_
        rintro e w3 ⟨rfl, hb3⟩
        have hB3 := hB2.trans (hb3.mono hB2.size)
        have k3 := k2.below hb3 k2.lt
        clear q0 q1
        go_wp2
        go_ret2
        obtain rfl : RV = ([], 5) := HRES.out
        exact ⟨none, 0, 0, rfl, MkII.nil hB3⟩
      · have HRES : Hid (RV = ([], 5)) := Lib.hid (by rw [hRES]; rfl)
        clear hRES
        go_enter Tryz.func17, Tryz.ntmps17
        obtain ⟨q0, q1⟩ := k0.two
        go_wp2_with fail
        refine hck.mono ?_
        rintro e w2 ⟨rfl, hb2⟩
        have hB2 := hB0.trans (hb2.mono hB0.size)
        have k2 := k0.below hb2 k0.lt
        clear q0 q1
        obtain ⟨q0, q1⟩ := k2.two
        go_wp2_with fail
        refine (HTS.out w2 hB2).mono ?_
        rintro e w3 ⟨rfl, hb3⟩
        have hB3 := hB2.trans (hb3.mono hB2.size)
        have k3 := k2.below hb3 k2.lt
        clear q0 q1
        go_wp2
        go_ret2
        obtain rfl : RV = ([], 5) := HRES.out
        exact ⟨none, 0, 0, rfl, MkII.nil hB3⟩
    · cases b
      · have HRES : Hid (RV = ([], 5)) := Lib.hid (by rw [hRES]; rfl)
        clear hRES
        go_enter Tryz.func17, Tryz.ntmps17
        obtain ⟨q0, q1⟩ := k0.two
        go_wp2_with fail
        refine hck.mono ?_
        rintro e w2 ⟨rfl, hb2⟩
        have hB2 := hB0.trans (hb2.mono hB0.size)
        have k2 := k0.below hb2 k0.lt
        clear q0 q1
        obtain ⟨q0, q1⟩ := k2.two
        go_wp2_with fail
        refine (HTS.out w2 hB2).mono ?_
        rintro e w3 ⟨rfl, hb3⟩
        have hB3 := hB2.trans (hb3.mono hB2.size)
        have k3 := k2.below hb3 k2.lt
        clear q0 q1
        obtain ⟨q0, q1⟩ := k3.two
        go_wp2_with fail
        refine (HCY.out _ hB3).mono ?_
        rintro e w4 ⟨A9, k9, c9, rfl, hM9⟩
        have hB4 := hB3.trans (hM9.b.mono hB3.size)
        have k4 := k3.below hM9.b k3.lt
        have hM4 := hM9.after hB3
        clear q0 q1 hM9
        go_wp2
        go_ret2
        obtain rfl : RV = ([], 5) := HRES.out
        exact ⟨none, 0, 0, rfl, MkII.nil hB4⟩
      · have HRES : Hid (RV = (Z, 0)) := Lib.hid (by rw [hRES]; rfl)
        clear hRES
        go_enter Tryz.func17, Tryz.ntmps17
        obtain ⟨q0, q1⟩ := k0.two
        go_wp2_with fail
        refine hck.mono ?_
        rintro e w2 ⟨rfl, hb2⟩
        have hB2 := hB0.trans (hb2.mono hB0.size)
        have k2 := k0.below hb2 k0.lt
        clear q0 q1
        obtain ⟨q0, q1⟩ := k2.two
        go_wp2_with fail
        refine (HTS.out w2 hB2).mono ?_
        rintro e w3 ⟨rfl, hb3⟩
        have hB3 := hB2.trans (hb3.mono hB2.size)
        have k3 := k2.below hb3 k2.lt
        clear q0 q1
        obtain ⟨q0, q1⟩ := k3.two
        go_wp2_with fail
        refine (HCY.out _ hB3).mono ?_
        rintro e w4 ⟨A9, k9, c9, rfl, hM9⟩
        have hB4 := hB3.trans (hM9.b.mono hB3.size)
        have k4 := k3.below hM9.b k3.lt
        have hM4 := hM9.after hB3
        clear q0 q1 hM9
        go_wp2
        go_ret2
        obtain rfl : RV = (Z, 0) := HRES.out
        exact ⟨_, _, _, rfl, hM4⟩
  · obtain ⟨v, hv⟩ : ∃ v, v = codeF P sq M := ⟨_, rfl⟩
    rw [← hv] at hck
    have b0 : (v != 0) = true := code_ne (by rw [hv]; exact hc)
    have b1 : (v == 0) = false := by
      rw [beq_eq_false_iff_ne]; rw [hv]; exact hc
    have HRES : Hid (RV = ([], v)) := Lib.hid (by rw [hRV, cofR_bad hc, hv])
    clear hc hv hRV hM hd ha
    go_enter Tryz.func17, Tryz.ntmps17
    obtain ⟨q0, q1⟩ := k0.two
    go_wp2_with fail
    refine hck.mono ?_
    rintro e w2 ⟨rfl, hb2⟩
    have hB2 := hB0.trans (hb2.mono hB0.size)
    have k2 := k0.below hb2 k0.lt
    clear q0 q1
    go_wp2
    go_ret2
    obtain rfl : RV = ([], v) := HRES.out
    exact ⟨none, 0, 0, rfl, MkII.nil hB2⟩
set_option maxHeartbeats 3200000 in
theorem specCayleyBack_any (P : Int) (A : Option Addr) (n c : Nat) (sq : List Int) (D : Option Addr) (r d : Nat) (M : List (List Int)) (m : Nat) (w : World) (hn : n ≤ 1048576) (hr0 : 0 < r) (hr : r ≤ 16) (hm1 : 1 ≤ m) (hm : m ≤ 16) (ha : Rd w A n (ints sq)) (hd : RdII w D r M) (hM : Rect m M) :
    Calls Tryz.prog 23 #[.agg #[.int .i64 P, .slice A n c], .slice D r d] w fun e w' => ∃ (A' : Option Addr) (k c' : Nat), e = .returned (.tuple #[.slice A' k c', .int .i64 (cobR P sq M).2]) ∧ MkII w w' A' k c' (cobR P sq M).1 := by
  have hB0 : Below w.heap.size w (w.alloc (.cells #[.int .i64 P, .slice A n c] 26)) := (Below.refl _ _).alloc (Nat.le_refl _) _
  have k0 : Blk (w.alloc (.cells #[.int .i64 P, .slice A n c] 26)) w.heap.size 26 #[.int .i64 P, .slice A n c] := Blk.new _ _ _
  have hck := l10Shape_any P A n c sq D r d M m (w.alloc (.cells #[.int .i64 P, .slice A n c] 26)) hr0 hr hm1 hm hn (ha.below hB0) (hd.below hB0) hM
  obtain ⟨RV, hRV⟩ : ∃ R, R = cobR P sq M := ⟨_, rfl⟩
  rw [← hRV]
  by_cases hc : codeF P sq M = 0
  · rw [hc] at hck
    have hRES := cobR_eq hc
    rw [← hRV] at hRES
    obtain ⟨h1, h2, h3, h4⟩ := codeF_zero hc
    have hsl := ha.lenI
    rw [hsl] at h3 h4
    obtain rfl : n = r := (hd.len.symm.trans h3).symm
    obtain ⟨HP, hd1, hd2, hnum⟩ := isSp_dim h1
    obtain ⟨hp3, hp2⟩ := isP_ge HP
    rw [hsl] at hd1 hd2
    have HNUM := Lib.hid (nums_numsL hnum)
    have HT := Lib.hid h4
    obtain ⟨sb, hsb⟩ : ∃ b, b = isoB P sq M := ⟨_, rfl⟩
    obtain ⟨b, hb⟩ : ∃ b, b = decide (detL P (onePl P M 1) ≠ 0) := ⟨_, rfl⟩
    obtain ⟨Z, hZ⟩ : ∃ Z, Z = if detL P (onePl P M 1) ≠ 0 then cayL P M else [] := ⟨_, rfl⟩
    have HTS := Lib.hid fun w' (h : Below w.heap.size w w') => l08Is_any P A n c sq D n d M n w' h1 hd1 (by omega) hd1 (by omega) (ha.below h) (hd.below h) (Rect.of_tab HT.out)
    have HCY := Lib.hid fun w' (h : Below w.heap.size w w') => l10Cayley_any P D n d M w' HP hd1 hd2 (hd.below h) HT.out
    rw [← hsb] at HTS
    rw [← hb, ← hZ] at HCY
    have hZb : b = true → cayL P M = Z := fun e => by rw [hZ, if_pos (of_decide_eq_true (hb.symm.trans e))]
    rw [← hsb, ← hb] at hRES
    replace hRES : RV = if sb && b then (Z, 0) else ([], 5) := by
      cases b
      · simpa using hRES
      · rw [hRES, hZb rfl]
    clear hZb hZ hb hsb HNUM HT hnum HP hsl h1 h2 h3 h4 hc hRV hM hd ha
    cases sb
    · cases b
      · have HRES : Hid (RV = ([], 5)) := Lib.hid (by rw [hRES]; rfl)
        clear hRES
        go_enter Tryz.func23, Tryz.ntmps23
        obtain ⟨q0, q1⟩ := k0.two
        go_wp2_with fail
        refine hck.mono ?_
        rintro e w2 ⟨rfl, hb2⟩
        have hB2 := hB0.trans (hb2.mono hB0.size)
        have k2 := k0.below hb2 k0.lt
        clear q0 q1
        obtain ⟨q0, q1⟩ := k2.two
        go_wp2_with fail
        refine (HTS.out w2 hB2).mono ?_
        rintro e w3 ⟨rfl, hb3⟩
        have hB3 := hB2.trans (hb3.mono hB2.size)
        have k3 := k2.below hb3 k2.lt
        clear q0 q1
        go_wp2
        go_ret2
        obtain rfl : RV = ([], 5) := HRES.out
        exact ⟨none, 0, 0, rfl, MkII.nil hB3⟩
      · have HRES : Hid (RV = ([], 5)) := Lib.hid (by rw [hRES]; rfl)
        clear hRES
        go_enter Tryz.func23, Tryz.ntmps23
        obtain ⟨q0, q1⟩ := k0.two
        go_wp2_with fail
        refine hck.mono ?_
        rintro e w2 ⟨rfl, hb2⟩
        have hB2 := hB0.trans (hb2.mono hB0.size)
        have k2 := k0.below hb2 k0.lt
        clear q0 q1
        obtain ⟨q0, q1⟩ := k2.two
        go_wp2_with fail
        refine (HTS.out w2 hB2).mono ?_
        rintro e w3 ⟨rfl, hb3⟩
        have hB3 := hB2.trans (hb3.mono hB2.size)
        have k3 := k2.below hb3 k2.lt
        clear q0 q1
        go_wp2
        go_ret2
        obtain rfl : RV = ([], 5) := HRES.out
        exact ⟨none, 0, 0, rfl, MkII.nil hB3⟩
    · cases b
      · have HRES : Hid (RV = ([], 5)) := Lib.hid (by rw [hRES]; rfl)
        clear hRES
        go_enter Tryz.func23, Tryz.ntmps23
        obtain ⟨q0, q1⟩ := k0.two
        go_wp2_with fail
        refine hck.mono ?_
        rintro e w2 ⟨rfl, hb2⟩
        have hB2 := hB0.trans (hb2.mono hB0.size)
        have k2 := k0.below hb2 k0.lt
        clear q0 q1
        obtain ⟨q0, q1⟩ := k2.two
        go_wp2_with fail
        refine (HTS.out w2 hB2).mono ?_
        rintro e w3 ⟨rfl, hb3⟩
        have hB3 := hB2.trans (hb3.mono hB2.size)
        have k3 := k2.below hb3 k2.lt
        clear q0 q1
        obtain ⟨q0, q1⟩ := k3.two
        go_wp2_with fail
        refine (HCY.out _ hB3).mono ?_
        rintro e w4 ⟨A9, k9, c9, rfl, hM9⟩
        have hB4 := hB3.trans (hM9.b.mono hB3.size)
        have k4 := k3.below hM9.b k3.lt
        have hM4 := hM9.after hB3
        clear q0 q1 hM9
        go_wp2
        go_ret2
        obtain rfl : RV = ([], 5) := HRES.out
        exact ⟨none, 0, 0, rfl, MkII.nil hB4⟩
      · have HRES : Hid (RV = (Z, 0)) := Lib.hid (by rw [hRES]; rfl)
        clear hRES
        go_enter Tryz.func23, Tryz.ntmps23
        obtain ⟨q0, q1⟩ := k0.two
        go_wp2_with fail
        refine hck.mono ?_
        rintro e w2 ⟨rfl, hb2⟩
        have hB2 := hB0.trans (hb2.mono hB0.size)
        have k2 := k0.below hb2 k0.lt
        clear q0 q1
        obtain ⟨q0, q1⟩ := k2.two
        go_wp2_with fail
        refine (HTS.out w2 hB2).mono ?_
        rintro e w3 ⟨rfl, hb3⟩
        have hB3 := hB2.trans (hb3.mono hB2.size)
        have k3 := k2.below hb3 k2.lt
        clear q0 q1
        obtain ⟨q0, q1⟩ := k3.two
        go_wp2_with fail
        refine (HCY.out _ hB3).mono ?_
        rintro e w4 ⟨A9, k9, c9, rfl, hM9⟩
        have hB4 := hB3.trans (hM9.b.mono hB3.size)
        have k4 := k3.below hM9.b k3.lt
        have hM4 := hM9.after hB3
        clear q0 q1 hM9
        go_wp2
        go_ret2
        obtain rfl : RV = (Z, 0) := HRES.out
        exact ⟨_, _, _, rfl, hM4⟩
  · obtain ⟨v, hv⟩ : ∃ v, v = codeF P sq M := ⟨_, rfl⟩
    rw [← hv] at hck
    have b0 : (v != 0) = true := code_ne (by rw [hv]; exact hc)
    have b1 : (v == 0) = false := by
      rw [beq_eq_false_iff_ne]; rw [hv]; exact hc
    have HRES : Hid (RV = ([], v)) := Lib.hid (by rw [hRV, cobR_bad hc, hv])
    clear hc hv hRV hM hd ha
    go_enter Tryz.func23, Tryz.ntmps23
    obtain ⟨q0, q1⟩ := k0.two
    go_wp2_with fail
    refine hck.mono ?_
    rintro e w2 ⟨rfl, hb2⟩
    have hB2 := hB0.trans (hb2.mono hB0.size)
    have k2 := k0.below hb2 k0.lt
    clear q0 q1
    go_wp2
    go_ret2
    obtain rfl : RV = ([], v) := HRES.out
    exact ⟨none, 0, 0, rfl, MkII.nil hB2⟩
end Go.Proofs.YtdbibmilicjllaaGreat
namespace Go.Proofs.YtdbibmilicjllaaGreat
open Go.RowKit
/-- The value is a pointer to a row's cell. -/
def VIy (gl ol k : Nat) : VP := ⟨fun v _ => ∃ j : Nat, j < k ∧ v = .pointer (some ⟨gl, ol + j, none⟩), fun _ _ _ h _ => h⟩
/-- The value is a number between two. -/
def VNt (a b : Nat) : VP := ⟨fun v _ => ∃ k : Nat, v = .int .i64 (k : Int) ∧ a ≤ k ∧ k ≤ b, fun _ _ _ h _ => h⟩
/-- The value is a list of lists of one length. -/
def VRm (B : Nat) : VP := ⟨fun v w => ∃ (A : Option Addr) (r c m : Nat) (L : List (List Int)), v = .slice A r c ∧ 0 < r ∧ r ≤ 16 ∧ 1 ≤ m ∧ m ≤ 16 ∧ Rect m L ∧ OwnM w B A r c L, fun _ _ _ ⟨A, r, c, m, L, e, h1, h2, h3, h4, h5, ho⟩ hb => ⟨A, r, c, m, L, e, h1, h2, h3, h4, h5, ho.below hb⟩⟩
theorem VRm.dr {B g : Nat} {T : TypeId} {v : Value} {w w' : World} (h : (VRm B).p v w) (d : Dr g T w w') (h1 : 24 ≠ T) (h2 : 2 ≠ T) : (VRm B).p v w' := by
  obtain ⟨A, r, c, m, L, e, a1, a2, a3, a4, a5, ho⟩ := h
  exact ⟨A, r, c, m, L, e, a1, a2, a3, a4, a5, ho.dr d h1 h2⟩
/-- A list of one list of one number. -/
theorem OwnM.lit1 {w : World} {B b0 b1 : Nat} {x : Int} (h0 : Blk w b0 2 #[.int .i64 x]) (h1 : Blk w b1 24 #[.slice (some ⟨b0, 0, none⟩) 1 1]) (hB0 : B ≤ b0) (hB1 : B ≤ b1) : OwnM w B (some ⟨b1, 0, none⟩) 1 1 [[x]] := by
  refine ⟨[.slice (some ⟨b0, 0, none⟩) 1 1], Own.of_cells (cs := #[.slice (some ⟨b0, 0, none⟩) 1 1]) hB1 h1 (by simp [maxLen]), rfl, fun k hk => ?_, fun i j g hij hi => ?_⟩
  · obtain rfl : k = 0 := by simp at hk; omega
    exact ⟨_, _, rfl, Own.of_cells (cs := #[.int .i64 x]) hB0 h0 (by simp [maxLen])⟩
  · have : j ≠ 0 := by omega
    obtain ⟨j, rfl⟩ : ∃ q, j = q + 1 := ⟨j - 1, by omega⟩
    simp
set_option maxHeartbeats 12800000 in
set_option maxRecDepth 8000 in
theorem l02Draw_any (g : Nat) (p : Int) (rows cols : Nat) (w : World) (hs : Src w g 225) (hp : 2 ≤ p) (hp2 : p ≤ 13) (hr : rows ≤ 100) (hc : cols ≤ 100) :
    Calls Tryz.prog 318 #[.pointer (some ⟨g, 0, none⟩), .int .i64 p, .int .i64 rows, .int .i64 cols] w fun e w' => ∃ (A' : Option Addr) (c' : Nat) (L : List (List Int)), e = .returned (.slice A' rows c') ∧ Tab p cols L ∧ OwnM w' w.heap.size A' rows c' L ∧ Dr g 225 w w' := by
  have d1 := (Dr.refl hs).alloc (.cells #[] 24)
  have l1 := OwnM.empty w (B := w.heap.size) (Nat.le_refl _)
  go_enter Tryz.func318, Tryz.ntmps318
  go_wp2
  go_loopw [9, 10] (fun l i wr => ∃ (k : Nat) (A0 : Option Addr) (c0 : Nat) (L : List (List Int)), k ≤ rows ∧ i = .int .i64 k ∧ l = .slice A0 k c0 ∧ Tab p cols L ∧ OwnM wr w.heap.size A0 k c0 L ∧ Dr g 225 w wr) (fun _ i _ => rows - (intOf i).toNat)
  case atStart => exact ⟨0, _, _, [], by omega, rfl, rfl, (fun u hu => by simp at hu), l1, d1⟩
  case round =>
    obtain ⟨k, A0, c0, L, hk, rfl, rfl, hTL, hL, hD⟩ := hrel
    clear l1 d1
    obtain ⟨wo, rfl⟩ : ∃ W, W = wr := ⟨_, rfl⟩
    have HTL := Lib.hid hTL
    have HL := Lib.hid hL
    have HD := Lib.hid hD
    clear hTL hL
    by_cases hlt : k < rows
    · have hli := nextList_any g p cols wo hD.s' (by omega) (by omega)
      clear hD
      go_wp2_with fail
      refine hli.mono ?_
      rintro e w3 ⟨A1, c1, v, rfl, hvl, hvx, hv, hd3⟩
      have HVL := Lib.hid (show v.length = cols ∧ NumsL p v from ⟨hvl, nums_of (by omega) hvx⟩)
      clear hli hvl hvx
      by_cases hk0 : 0 < k
      · have t1 : decide ((0 : Int) < (k : Int)) = true := by simp; omega
        have hnx := next_any g 4 w3 hd3.s' (by omega)
        go_wp2_with fail
        refine hnx.mono ?_
        rintro e w4 ⟨r8, rfl, _, _, hd8⟩
        have d4 := hd3.trans hd8
        by_cases h8 : r8 = 0
        · have e8 : (r8 == 0) = true := by simp [h8]
          have L4 := HL.out.dr d4 (by decide) (by decide)
          have D4 := HD.out.trans d4
          have D5 := Lib.hid d4
          obtain ⟨gl, ol, hx0, R0, d0, eA, -, -, -⟩ := HL.out.at_ hk0
          subst eA
          clear hnx hd3 hd8 hv HVL hx0 d4
          go_wp2
          refine wp_obsR 23 (Dr g 225) [[], [], [], [], [], [3, 4], [2, 3, 4, 5], [2, 3, 4, 5, 6], [], [], [3, 4, 5, 8, 9], [1, 2, 3, 4, 5, 6, 7, 8, 9, 10], [], [], [], [1, 2, 3, 4, 5, 6, 7, 8, 9, 10, 11, 13, 14], [1, 2, 3, 4, 5, 6, 7, 8, 9, 10, 11, 12, 13, 14, 15], [1, 2, 3, 4, 5, 6, 7, 8, 9, 10, 11, 12, 13, 14, 15, 16], [], [], [1, 2, 3, 4, 5, 6, 7, 8, 9, 10, 11, 13, 14, 15, 18, 19], [0, 1, 2, 3, 4, 5, 6, 7, 8, 9, 10, 11, 12, 13, 14, 15, 16, 17, 18, 19, 20], [0, 1, 2, 3, 4, 5, 6, 7, 8, 9, 10, 11, 12, 13, 14, 15, 16, 17, 18, 19, 20, 21]] [[], [], [], [], [], [99], [], [], [], [], [99], [], [], [], [], [99], [], [], [], [], [99], [], []] (fun x => [VIs (.int .i64 (p)), VIs (.int .i64 (p)), VIs (.slice (some ⟨gl, ol, none⟩) k c0), VIs (.pointer (some ⟨g, 0, none⟩)), VIs (.int .i64 (k)), VIz k, VIy gl ol k, VLs 0 cols p, VIs (.pointer (some ⟨g, 0, none⟩)), VIs (.int .i64 (p)), VIz p, VLs 0 cols p, VIs (.slice (some ⟨gl, ol, none⟩) k c0), VIs (.pointer (some ⟨g, 0, none⟩)), VIs (.int .i64 (k)), VIz k, VIy gl ol k, VLs 0 cols p, VIs (.pointer (some ⟨g, 0, none⟩)), VIs (.int .i64 (p)), VIz p, VLs w4.heap.size cols p, VLs w4.heap.size cols p]) (fun w' => OwnM w' w.heap.size (some ⟨gl, ol, none⟩) k c0 L ∧ Dr g 225 w4 w') (by kernel_rfl) (by kernel_rfl) (fun x x' j hx => by
              rcases j with _ | _ | _ | _ | _ | _ | _ | _ | _ | _ | _ | _ | _ | _ | _ | _ | _ | _ | _ | _ | _ | _ | _ | j
              · rfl
              · rfl
              · rfl
              · rfl
              · rfl
              · rfl
              · rfl
              · rfl
              · rfl
              · rfl
              · rfl
              · rfl
              · rfl
              · rfl
              · rfl
              · rfl
              · rfl
              · rfl
              · rfl
              · rfl
              · rfl
              · rfl
              · rfl
              · rfl)
            (weak_ofR [0, 1, 2, 3, 4, 5, 6, 7, 8, 9, 10, 11, 12, 13, 14, 15, 16, 17, 18, 19, 20, 21, 22] (by decide) (fun k hk x v w w' hp hr => by
              simp only [List.mem_cons, List.not_mem_nil, or_false] at hk
              rcases hk with rfl | rfl | rfl | rfl | rfl | rfl | rfl | rfl | rfl | rfl | rfl | rfl | rfl | rfl | rfl | rfl | rfl | rfl | rfl | rfl | rfl | rfl | rfl
              · exact hp
              · exact hp
              · exact hp
              · exact hp
              · exact hp
              · exact hp
              · exact hp
              · exact VLs.dr hp hr (by decide)
              · exact hp
              · exact hp
              · exact hp
              · exact VLs.dr hp hr (by decide)
              · exact hp
              · exact hp
              · exact hp
              · exact hp
              · exact hp
              · exact VLs.dr hp hr (by decide)
              · exact hp
              · exact hp
              · exact hp
              · exact VLs.dr hp hr (by decide)
              · exact VLs.dr hp hr (by decide))) (fun j _ _ h hb => hb.either (fun hb => ⟨h.1.below hb, h.2.then hb⟩) (fun hr => ⟨h.1.dr hr (by decide) (by decide), h.2.trans hr⟩)) (⟨L4.below (Below.refl _ _).drew, (Dr.refl D4.s').then (Below.refl _ _).drew⟩) (fun x => ?_)
          refine obs_stepR (Eq.trans (by simp only [zA, zC]; exact rfl) rfl) rfl (fun w' hS hV K hK => ?_) ?_
          · go_simp
            exact hK.out _ _ _ rfl rfl rfl (Below.refl _ _)
          simp only [zD, zE, zF]
          refine obs_stepR (Eq.trans (by simp only [zA, zB, zC]; exact rfl) rfl) rfl (fun w' hS hV K hK => ?_) ?_
          · go_simp
            exact hK.out _ _ _ rfl rfl rfl (Below.refl _ _)
          simp only [zD, zE, zF]
          refine obs_stepR (Eq.trans (by simp only [zA, zB, zC]; exact rfl) rfl) rfl (fun w' hS hV K hK => ?_) ?_
          · go_simp
            exact hK.out _ _ _ rfl rfl rfl (Below.refl _ _)
          simp only [zD, zE, zF]
          refine obs_stepR (Eq.trans (by simp only [zA, zB, zC]; exact rfl) rfl) rfl (fun w' hS hV K hK => ?_) ?_
          · go_simp
            exact hK.out _ _ _ rfl rfl rfl (Below.refl _ _)
          simp only [zD, zE, zF]
          refine obs_stepR (Eq.trans (by simp only [zA, zB, zC]; exact rfl) rfl) rfl (fun w' hS hV K hK => ?_) ?_
          · go_simp
            exact hK.out _ _ _ rfl rfl rfl (Below.refl _ _)
          simp only [zD, zE, zF]
          refine obs_stepR (Eq.trans (by simp only [zA, zB, zC]; exact rfl) rfl) rfl (fun w' hS hV K hK => ?_) ?_
          · have e3 : x 3 = (.pointer (some ⟨g, 0, none⟩)) := hV 3 (by decide)
            have e4 : x 4 = (.int .i64 (k)) := hV 4 (by decide)
            go_simp
            refine (next_any g (k : Int) w' hS.2.s' (by omega)).mono ?_
            rintro e v1 ⟨r9, rfl, t8, t9, hd9⟩
            exact hK.out _ _ _ rfl rfl ⟨r9, rfl, t8, t9 (by omega)⟩ hd9
          simp only [zD, zE, zF]
          refine obs_stepR (Eq.trans (by simp only [zA, zB, zC]; exact rfl) rfl) rfl (fun w' hS hV K hK => ?_) ?_
          · have e2 : x 2 = (.slice (some ⟨gl, ol, none⟩) k c0) := hV 2 (by decide)
            obtain ⟨k5, e5, b5, d5⟩ := hV 5 (by decide)
            obtain ⟨j, rfl⟩ : ∃ j : Nat, k5 = (j : Int) := ⟨k5.toNat, by omega⟩
            have b8 : (0 : Int) ≤ (j : Int) := by omega
            have b9 : (j : Int) < (k : Int) := by omega
            go_simp
            exact hK.out _ _ _ rfl rfl ⟨j, by omega, rfl⟩ (Below.refl _ _)
          simp only [zD, zE, zF]
          refine obs_stepR (Eq.trans (by simp only [zA, zB, zC]; exact rfl) rfl) rfl (fun w' hS hV K hK => ?_) ?_
          · obtain ⟨k5, e5, b5, d5⟩ := hV 5 (by decide)
            obtain ⟨j6, b6, e6⟩ := hV 6 (by decide)
            obtain ⟨g9, o9, hx9, R9, f9, e9, -, hrow9, hr9⟩ := hS.1.at_ b6
            cases e9
            have hl9 := HTL.out _ (List.getElem_mem hx9)
            have t9 := hrow9.cell
            rw [hl9.1] at t9 hr9
            go_simp
            exact hK.out _ _ _ rfl rfl ⟨_, _, _, rfl, hl9.1, hl9.2, hr9.base (Nat.zero_le _)⟩ (Below.refl _ _)
          simp only [zD, zE, zF]
          refine obs_stepR (Eq.trans (by simp only [zA, zB, zC]; exact rfl) rfl) rfl (fun w' hS hV K hK => ?_) ?_
          · go_simp
            exact hK.out _ _ _ rfl rfl rfl (Below.refl _ _)
          simp only [zD, zE, zF]
          refine obs_stepR (Eq.trans (by simp only [zA, zB, zC]; exact rfl) rfl) rfl (fun w' hS hV K hK => ?_) ?_
          · go_simp
            exact hK.out _ _ _ rfl rfl rfl (Below.refl _ _)
          simp only [zD, zE, zF]
          refine obs_stepR (Eq.trans (by simp only [zA, zB, zC]; exact rfl) rfl) rfl (fun w' hS hV K hK => ?_) ?_
          · obtain ⟨k5, e5, b5, d5⟩ := hV 5 (by decide)
            have e8 : x 8 = (.pointer (some ⟨g, 0, none⟩)) := hV 8 (by decide)
            have e9 : x 9 = (.int .i64 (p)) := hV 9 (by decide)
            go_simp
            refine (next_any g p w' hS.2.s' (by omega)).mono ?_
            rintro e v1 ⟨r9, rfl, t8, t9, hd9⟩
            exact hK.out _ _ _ rfl rfl ⟨r9, rfl, t8, t9 (by omega)⟩ hd9
          simp only [zD, zE, zF]
          refine obs_stepR (Eq.trans (by simp only [zA, zB, zC]; exact rfl) rfl) rfl (fun w' hS hV K hK => ?_) ?_
          · have e1 : x 1 = (.int .i64 (p)) := hV 1 (by decide)
            obtain ⟨k5, e5, b5, d5⟩ := hV 5 (by decide)
            obtain ⟨j6, b6, e6⟩ := hV 6 (by decide)
            obtain ⟨A7, c7, X7, e7, l7, u7, h7⟩ := hV 7 (by decide)
            obtain ⟨k10, e10, b10, d10⟩ := hV 10 (by decide)
            go_simp
            refine (l02Scale_any p A7 cols c7 k10 X7 w' hp hp2 (by omega) h7.rd u7 (by omega) (by omega)).mono ?_
            rintro e v1 ⟨A9, c9, rfl, hM⟩
            exact hK.out _ _ _ rfl rfl ⟨_, _, _, rfl, by rw [scaleL_len]; exact l7, scaleL_nums (by omega) _ _, hM.2.base (Nat.zero_le _)⟩ hM.b
          simp only [zD, zE, zF]
          refine obs_stepR (Eq.trans (by simp only [zA, zB, zC]; exact rfl) rfl) rfl (fun w' hS hV K hK => ?_) ?_
          · go_simp
            exact hK.out _ _ _ rfl rfl rfl (Below.refl _ _)
          simp only [zD, zE, zF]
          refine obs_stepR (Eq.trans (by simp only [zA, zB, zC]; exact rfl) rfl) rfl (fun w' hS hV K hK => ?_) ?_
          · go_simp
            exact hK.out _ _ _ rfl rfl rfl (Below.refl _ _)
          simp only [zD, zE, zF]
          refine obs_stepR (Eq.trans (by simp only [zA, zB, zC]; exact rfl) rfl) rfl (fun w' hS hV K hK => ?_) ?_
          · go_simp
            exact hK.out _ _ _ rfl rfl rfl (Below.refl _ _)
          simp only [zD, zE, zF]
          refine obs_stepR (Eq.trans (by simp only [zA, zB, zC]; exact rfl) rfl) rfl (fun w' hS hV K hK => ?_) ?_
          · obtain ⟨k5, e5, b5, d5⟩ := hV 5 (by decide)
            obtain ⟨j6, b6, e6⟩ := hV 6 (by decide)
            obtain ⟨A7, c7, X7, e7, l7, u7, h7⟩ := hV 7 (by decide)
            obtain ⟨k10, e10, b10, d10⟩ := hV 10 (by decide)
            obtain ⟨A11, c11, X11, e11, l11, u11, h11⟩ := hV 11 (by decide)
            have e13 : x 13 = (.pointer (some ⟨g, 0, none⟩)) := hV 13 (by decide)
            have e14 : x 14 = (.int .i64 (k)) := hV 14 (by decide)
            go_simp
            refine (next_any g (k : Int) w' hS.2.s' (by omega)).mono ?_
            rintro e v1 ⟨r9, rfl, t8, t9, hd9⟩
            exact hK.out _ _ _ rfl rfl ⟨r9, rfl, t8, t9 (by omega)⟩ hd9
          simp only [zD, zE, zF]
          refine obs_stepR (Eq.trans (by simp only [zA, zB, zC]; exact rfl) rfl) rfl (fun w' hS hV K hK => ?_) ?_
          · obtain ⟨k5, e5, b5, d5⟩ := hV 5 (by decide)
            obtain ⟨j6, b6, e6⟩ := hV 6 (by decide)
            obtain ⟨A7, c7, X7, e7, l7, u7, h7⟩ := hV 7 (by decide)
            obtain ⟨k10, e10, b10, d10⟩ := hV 10 (by decide)
            obtain ⟨A11, c11, X11, e11, l11, u11, h11⟩ := hV 11 (by decide)
            have e12 : x 12 = (.slice (some ⟨gl, ol, none⟩) k c0) := hV 12 (by decide)
            obtain ⟨k15, e15, b15, d15⟩ := hV 15 (by decide)
            obtain ⟨j, rfl⟩ : ∃ j : Nat, k15 = (j : Int) := ⟨k15.toNat, by omega⟩
            have b8 : (0 : Int) ≤ (j : Int) := by omega
            have b9 : (j : Int) < (k : Int) := by omega
            go_simp
            exact hK.out _ _ _ rfl rfl ⟨j, by omega, rfl⟩ (Below.refl _ _)
          simp only [zD, zE, zF]
          refine obs_stepR (Eq.trans (by simp only [zA, zB, zC]; exact rfl) rfl) rfl (fun w' hS hV K hK => ?_) ?_
          · obtain ⟨k5, e5, b5, d5⟩ := hV 5 (by decide)
            obtain ⟨j6, b6, e6⟩ := hV 6 (by decide)
            obtain ⟨A7, c7, X7, e7, l7, u7, h7⟩ := hV 7 (by decide)
            have e9 : x 9 = (.int .i64 (p)) := hV 9 (by decide)
            obtain ⟨k10, e10, b10, d10⟩ := hV 10 (by decide)
            obtain ⟨A11, c11, X11, e11, l11, u11, h11⟩ := hV 11 (by decide)
            obtain ⟨k15, e15, b15, d15⟩ := hV 15 (by decide)
            obtain ⟨j16, b16, e16⟩ := hV 16 (by decide)
            obtain ⟨g9, o9, hx9, R9, f9, e9, -, hrow9, hr9⟩ := hS.1.at_ b16
            cases e9
            have hl9 := HTL.out _ (List.getElem_mem hx9)
            have t9 := hrow9.cell
            rw [hl9.1] at t9 hr9
            go_simp
            exact hK.out _ _ _ rfl rfl ⟨_, _, _, rfl, hl9.1, hl9.2, hr9.base (Nat.zero_le _)⟩ (Below.refl _ _)
          simp only [zD, zE, zF]
          refine obs_stepR (Eq.trans (by simp only [zA, zB, zC]; exact rfl) rfl) rfl (fun w' hS hV K hK => ?_) ?_
          · go_simp
            exact hK.out _ _ _ rfl rfl rfl (Below.refl _ _)
          simp only [zD, zE, zF]
          refine obs_stepR (Eq.trans (by simp only [zA, zB, zC]; exact rfl) rfl) rfl (fun w' hS hV K hK => ?_) ?_
          · go_simp
            exact hK.out _ _ _ rfl rfl rfl (Below.refl _ _)
          simp only [zD, zE, zF]
          refine obs_stepR (Eq.trans (by simp only [zA, zB, zC]; exact rfl) rfl) rfl (fun w' hS hV K hK => ?_) ?_
          · obtain ⟨k5, e5, b5, d5⟩ := hV 5 (by decide)
            obtain ⟨j6, b6, e6⟩ := hV 6 (by decide)
            obtain ⟨A7, c7, X7, e7, l7, u7, h7⟩ := hV 7 (by decide)
            obtain ⟨k10, e10, b10, d10⟩ := hV 10 (by decide)
            obtain ⟨A11, c11, X11, e11, l11, u11, h11⟩ := hV 11 (by decide)
            obtain ⟨k15, e15, b15, d15⟩ := hV 15 (by decide)
            have e18 : x 18 = (.pointer (some ⟨g, 0, none⟩)) := hV 18 (by decide)
            have e19 : x 19 = (.int .i64 (p)) := hV 19 (by decide)
            go_simp
            refine (next_any g p w' hS.2.s' (by omega)).mono ?_
            rintro e v1 ⟨r9, rfl, t8, t9, hd9⟩
            exact hK.out _ _ _ rfl rfl ⟨r9, rfl, t8, t9 (by omega)⟩ hd9
          simp only [zD, zE, zF]
          refine obs_stepR (Eq.trans (by simp only [zA, zB, zC]; exact rfl) rfl) rfl (fun w' hS hV K hK => ?_) ?_
          · have e0 : x 0 = (.int .i64 (p)) := hV 0 (by decide)
            obtain ⟨k5, e5, b5, d5⟩ := hV 5 (by decide)
            obtain ⟨j6, b6, e6⟩ := hV 6 (by decide)
            obtain ⟨A7, c7, X7, e7, l7, u7, h7⟩ := hV 7 (by decide)
            obtain ⟨k10, e10, b10, d10⟩ := hV 10 (by decide)
            obtain ⟨A11, c11, X11, e11, l11, u11, h11⟩ := hV 11 (by decide)
            obtain ⟨k15, e15, b15, d15⟩ := hV 15 (by decide)
            obtain ⟨j16, b16, e16⟩ := hV 16 (by decide)
            obtain ⟨A17, c17, X17, e17, l17, u17, h17⟩ := hV 17 (by decide)
            obtain ⟨k20, e20, b20, d20⟩ := hV 20 (by decide)
            go_simp
            refine (l02Plus_any p A11 cols c11 A17 cols c17 k20 X11 X17 w' hp hp2 (by omega) (Nat.le_refl _) h11.rd u11 h17.rd u17 (by omega) (by omega)).mono ?_
            rintro e v1 ⟨A9, c9, rfl, hM⟩
            exact hK.out _ _ _ rfl rfl ⟨_, _, _, rfl, by rw [plusL_len]; exact l11, plusL_nums (by omega) _ _ _, hM.2.base hS.2.size⟩ hM.b
          simp only [zD, zE, zF]
          refine obs_stepR (Eq.trans (by simp only [zA, zB, zC]; exact rfl) rfl) rfl (fun w' hS hV K hK => ?_) ?_
          · obtain ⟨k5, e5, b5, d5⟩ := hV 5 (by decide)
            obtain ⟨j6, b6, e6⟩ := hV 6 (by decide)
            obtain ⟨A7, c7, X7, e7, l7, u7, h7⟩ := hV 7 (by decide)
            obtain ⟨k10, e10, b10, d10⟩ := hV 10 (by decide)
            obtain ⟨A11, c11, X11, e11, l11, u11, h11⟩ := hV 11 (by decide)
            obtain ⟨k15, e15, b15, d15⟩ := hV 15 (by decide)
            obtain ⟨j16, b16, e16⟩ := hV 16 (by decide)
            obtain ⟨A17, c17, X17, e17, l17, u17, h17⟩ := hV 17 (by decide)
            obtain ⟨k20, e20, b20, d20⟩ := hV 20 (by decide)
            obtain ⟨A21, c21, X21, e21, l21, u21, h21⟩ := hV 21 (by decide)
            go_simp
            exact hK.out _ _ _ rfl rfl ⟨_, _, _, rfl, l21, u21, h21⟩ (Below.refl _ _)
          simp only [zD, zE, zF]
          refine fun w' hS hV => ?_
          have e0 : x 0 = (.int .i64 (p)) := hV 0 (by decide)
          have e1 : x 1 = (.int .i64 (p)) := hV 1 (by decide)
          have e2 : x 2 = (.slice (some ⟨gl, ol, none⟩) k c0) := hV 2 (by decide)
          have e3 : x 3 = (.pointer (some ⟨g, 0, none⟩)) := hV 3 (by decide)
          have e4 : x 4 = (.int .i64 (k)) := hV 4 (by decide)
          obtain ⟨k5, e5, b5, d5⟩ := hV 5 (by decide)
          obtain ⟨j6, b6, e6⟩ := hV 6 (by decide)
          obtain ⟨A7, c7, X7, e7, l7, u7, h7⟩ := hV 7 (by decide)
          have e8 : x 8 = (.pointer (some ⟨g, 0, none⟩)) := hV 8 (by decide)
          have e9 : x 9 = (.int .i64 (p)) := hV 9 (by decide)
          obtain ⟨k10, e10, b10, d10⟩ := hV 10 (by decide)
          obtain ⟨A11, c11, X11, e11, l11, u11, h11⟩ := hV 11 (by decide)
          have e12 : x 12 = (.slice (some ⟨gl, ol, none⟩) k c0) := hV 12 (by decide)
          have e13 : x 13 = (.pointer (some ⟨g, 0, none⟩)) := hV 13 (by decide)
          have e14 : x 14 = (.int .i64 (k)) := hV 14 (by decide)
          obtain ⟨k15, e15, b15, d15⟩ := hV 15 (by decide)
          obtain ⟨j16, b16, e16⟩ := hV 16 (by decide)
          obtain ⟨A17, c17, X17, e17, l17, u17, h17⟩ := hV 17 (by decide)
          have e18 : x 18 = (.pointer (some ⟨g, 0, none⟩)) := hV 18 (by decide)
          have e19 : x 19 = (.int .i64 (p)) := hV 19 (by decide)
          obtain ⟨k20, e20, b20, d20⟩ := hV 20 (by decide)
          obtain ⟨A21, c21, X21, e21, l21, u21, h21⟩ := hV 21 (by decide)
          obtain ⟨A22, c22, X22, e22, l22, u22, h22⟩ := hV 22 (by decide)
          simp only [e0, e1, e2, e3, e4, e5, e6, e7, e8, e9, e10, e11, e12, e13, e14, e15, e16, e17, e18, e19, e20, e21, e22]
          clear e0 e1 e2 e3 e4 e5 e6 e7 e8 e9 e10 e11 e12 e13 e14 e15 e16 e17 e18 e19 e20 e21 e22
          refine wpAny_done (by kernel_rfl) ?_ _
          obtain ⟨-, d6⟩ := hS
          have D8 := Lib.hid (D5.out.trans d6)
          have V8 := Lib.hid (h22.base (B' := wo.heap.size) D5.out.size)
          have HVL := Lib.hid (show X22.length = cols ∧ NumsL p X22 from ⟨l22, u22⟩)
          clear d6 h22 L4 D4 D5
          obtain ⟨w6, hw6⟩ : ∃ W, W = w' := ⟨_, rfl⟩
          rw [← hw6] at D8 V8 ⊢
          clear hw6
          go_wp2_with (at_builtin; (refine wpList_pushRow w wo w6 g 225 rfl _ _ rfl (some ⟨gl, ol, none⟩) k c0 L A22 cols c22 X22 HL.out HD.out D8.out (by decide) (by decide) V8.out (by omega) rfl ?_ ?_; (go_simp); intro A9 c9 w9 h9 d9 kp))
          have HL9 := Lib.hid h9
          have D9 := Lib.hid d9
          have HT9 := Lib.hid (show Tab p cols (L ++ [X22]) from fun u hu => by
            rcases List.mem_append.1 hu with hu | hu
            · exact HTL.out u hu
            · rw [List.mem_singleton.1 hu]; exact HVL.out)
          clear h9 d9 kp
          go_wp2
          go_roundw
          case rel => exact ⟨k + 1, A9, c9, L ++ [X22], by omega, by go_num, rfl, HT9.out, HL9.out, D9.out⟩
          case measure => simp [intOf]; omega
        · have e8 : (r8 == 0) = false := by simp [h8]
          have D8 := Lib.hid d4
          have V8 := Lib.hid (hv.dr hd8 (by decide))
          clear hnx hd3 hd8 hv d4
          go_wp2_with (at_builtin; (refine wpList_pushRow w wo w4 g 225 rfl _ _ rfl A0 k c0 L A1 cols c1 v HL.out HD.out D8.out (by decide) (by decide) V8.out (by omega) rfl ?_ ?_; (go_simp); intro A9 c9 w9 h9 d9 kp))
          have HL9 := Lib.hid h9
          have D9 := Lib.hid d9
          have HT9 := Lib.hid (show Tab p cols (L ++ [v]) from fun u hu => by
            rcases List.mem_append.1 hu with hu | hu
            · exact HTL.out u hu
            · rw [List.mem_singleton.1 hu]; exact HVL.out)
          clear h9 d9 kp
          go_wp2
          go_roundw
          case rel => exact ⟨k + 1, A9, c9, L ++ [v], by omega, by go_num, rfl, HT9.out, HL9.out, D9.out⟩
          case measure => simp [intOf]; omega
      · have t1 : decide ((0 : Int) < (k : Int)) = false := by simp; omega
        have D8 := Lib.hid hd3
        have V8 := Lib.hid hv
        clear hd3 hv
        go_wp2_with (at_builtin; (refine wpList_pushRow w wo w3 g 225 rfl _ _ rfl A0 k c0 L A1 cols c1 v HL.out HD.out D8.out (by decide) (by decide) V8.out (by omega) rfl ?_ ?_; (go_simp); intro A9 c9 w9 h9 d9 kp))
        have HL9 := Lib.hid h9
        have D9 := Lib.hid d9
        have HT9 := Lib.hid (show Tab p cols (L ++ [v]) from fun u hu => by
          rcases List.mem_append.1 hu with hu | hu
          · exact HTL.out u hu
          · rw [List.mem_singleton.1 hu]; exact HVL.out)
        clear h9 d9 kp
        go_wp2
        go_roundw
        case rel => exact ⟨k + 1, A9, c9, L ++ [v], by omega, by go_num, rfl, HT9.out, HL9.out, D9.out⟩
        case measure => simp [intOf]; omega
    · obtain rfl : k = rows := by omega
      go_wp2
      go_ret
      exact ⟨_, _, _, rfl, HTL.out, HL.out, HD.out⟩
/-- A matrix, drawn on from a source. -/
def DrewS (g : Nat) (w : World) (e : Ending) (w' : World) : Prop := ∃ (A' : Option Addr) (r c' m : Nat) (L : List (List Int)), e = .returned (.slice A' r c') ∧ 0 < r ∧ r ≤ 16 ∧ 1 ≤ m ∧ m ≤ 16 ∧ Rect m L ∧ OwnM w' w.heap.size A' r c' L ∧ Dr g 225 w w'
set_option maxHeartbeats 6400000 in
set_option maxRecDepth 8000 in
theorem l10Skewed_any (g : Nat) (P : Int) (A : Option Addr) (n c : Nat) (sq : List Int) (w : World) (hs : Src w g 225) (hn : n ≤ 1048576) (ho : Own w 0 2 A n c (ints sq)) :
    Calls Tryz.prog 138 #[.pointer (some ⟨g, 0, none⟩), .agg #[.int .i64 P, .slice A n c]] w (DrewS g w) := by
  have hsl : sq.length = n := ho.rd.lenI
  have k0 : Blk (w.alloc (.cells #[.int .i64 P, .slice A n c] 26)) w.heap.size 26 #[.int .i64 P, .slice A n c] := Blk.new _ _ _
  have d0 := (Dr.refl hs).alloc (.cells #[.int .i64 P, .slice A n c] 26)
  have o0 := ho.below ((Below.refl _ _).alloc (Nat.le_refl _) (.cells #[.int .i64 P, .slice A n c] 26))
  obtain ⟨q0, q1⟩ := k0.two
  cases h1 : isSp P sq
  · have H1 := Lib.hid h1
    clear h1
    go_enter Tryz.func138, Tryz.ntmps138
    go_wp2_with fail
    refine (l03Is_b _ _ _ _ _ _ (by omega) o0.rd H1.out).mono ?_
    rintro e w2 ⟨rfl, hb⟩
    have d5 := d0.then hb
    have k5 := k0.below hb k0.lt
    clear q0 q1
    obtain ⟨q0, q1⟩ := k5.two
    clear hb d0 o0 k0
    go_wp2
    go_ret
    exact ⟨_, 1, _, 1, [[0]], rfl, by decide, by decide, by decide, by decide, (fun u hu => by rw [List.mem_singleton.1 hu]; rfl), OwnM.lit1 ((Blk.new w2 2 #[.int .i64 0]).alloc _) (Blk.newAt3 (by simp)) d5.size (by have := d5.size; omega), (d5.alloc _).alloc _⟩
  · obtain ⟨HP, hn1, hn2, hq⟩ := isSp_dim h1
    obtain ⟨hp3, hp2⟩ := isP_ge HP
    have H1 := Lib.hid h1
    rw [hsl] at hn1 hn2
    have hpw : pw n ≤ 64 := pw_le hn2
    have HQ := Lib.hid (nums_numsL hq)
    have HPP := Lib.hid HP
    obtain ⟨z, hz⟩ : ∃ z, z = discT P sq n := ⟨_, rfl⟩
    have hdi := Lib.hid fun w' (h : Below (w.alloc (.cells #[.int .i64 P, .slice A n c] 26)).heap.size (w.alloc (.cells #[.int .i64 P, .slice A n c] 26)) w') => l03Disc_any P A n c sq w' (by omega) hp2 (by omega) (o0.below h).rd HQ.out
    rw [← hz] at hdi
    clear h1 hq HP hz
    go_enter Tryz.func138, Tryz.ntmps138
    go_wp2_with fail
    refine (l03Is_b _ _ _ _ _ _ (by omega) o0.rd H1.out).mono ?_
    rintro e w2 ⟨rfl, hb⟩
    have k2 := k0.below hb k0.lt
    clear q0 q1
    obtain ⟨q0, q1⟩ := k2.two
    go_wp2_with fail
    refine (hdi.out w2 hb).mono ?_
    rintro e w3 ⟨rfl, hb3⟩
    have hb4 := hb.trans (hb3.mono hb.size)
    have d5 := d0.then hb4
    have k5 := k0.below hb4 k0.lt
    have o5 := o0.below hb4
    clear q0 q1 k2 hb hb3 hdi hb4 d0 k0 o0
    obtain ⟨q0, q1⟩ := k5.two
    by_cases hz : z = 0
    · have e8 : (z == 0) = true := by simp [hz]
      go_wp2
      go_ret
      exact ⟨_, 1, _, 1, [[0]], rfl, by decide, by decide, by decide, by decide, (fun u hu => by rw [List.mem_singleton.1 hu]; rfl), OwnM.lit1 ((Blk.new w3 2 #[.int .i64 0]).alloc _) (Blk.newAt3 (by simp)) d5.size (by have := d5.size; omega), (d5.alloc _).alloc _⟩
    · have e8 : (z == 0) = false := by simp [hz]
      have hnx := next_any g 10 w3 d5.s' (by omega)
      go_wp2_with fail
      refine hnx.mono ?_
      rintro e w8 ⟨r8, rfl, _, _, hd8⟩
      replace d5 := d5.trans hd8
      replace k5 := k5.dr hd8 (by decide)
      replace o5 := o5.dr hd8 (by decide)
      clear hnx hd8 q0 q1
      obtain ⟨q0, q1⟩ := k5.two
      by_cases h8 : r8 = 0
      · have e9 : (r8 == 0) = true := by simp [h8]
        go_wp2
        refine wp_obsR 11 (Dr g 225) [[], [], [1], [], [], [], [], [5, 6], [4, 5, 6, 7], [0, 1, 2, 3, 4, 5, 6, 7, 8], [0, 1, 2, 3, 4, 5, 6, 7, 8, 9]] [[], [], [], [], [], [], [], [99], [], [99], []] (fun x => [VIs (.pointer (some ⟨g, 0, none⟩)), VIs (.pointer (some ⟨w.heap.size, 0, none⟩)), VIs (.int .i64 (P)), VIs (.int .i64 (n)), VIs (.int .i64 (n)), VIs (.pointer (some ⟨g, 0, none⟩)), VBs 2 #[.int .i64 0, .int .i64 0, .int .i64 1], VIz 2, VNt 1 7, VRm w.heap.size, VRm w.heap.size]) (fun w' => Blk w' w.heap.size 26 #[.int .i64 P, .slice A n c] ∧ Dr g 225 w w') (by kernel_rfl) (by kernel_rfl) (fun x x' j hx => by
            rcases j with _ | _ | _ | _ | _ | _ | _ | _ | _ | _ | _ | j
            · rfl
            · rfl
            · rfl
            · rfl
            · rfl
            · rfl
            · rfl
            · rfl
            · rfl
            · rfl
            · rfl
            · rfl)
          (weak_ofR [0, 1, 2, 3, 4, 5, 6, 7, 8, 9, 10] (by decide) (fun k hk x v w w' hp hr => by
            simp only [List.mem_cons, List.not_mem_nil, or_false] at hk
            rcases hk with rfl | rfl | rfl | rfl | rfl | rfl | rfl | rfl | rfl | rfl | rfl
            · exact hp
            · exact hp
            · exact hp
            · exact hp
            · exact hp
            · exact hp
            · obtain ⟨g9, e9, k9⟩ := hp; exact ⟨g9, e9, k9.dr hr (by decide)⟩
            · exact hp
            · exact hp
            · exact VRm.dr hp hr (by decide) (by decide)
            · exact VRm.dr hp hr (by decide) (by decide))) (fun j _ _ h hb => hb.either (fun hb => ⟨h.1.below hb h.1.lt, h.2.then hb⟩) (fun hr => ⟨h.1.dr hr (by decide), h.2.trans hr⟩)) (⟨k5.drew, d5.then (Below.refl _ _).drew⟩) (fun x => ?_)
        refine obs_stepR (Eq.trans (by simp only [zA, zC]; exact rfl) rfl) rfl (fun w' hS hV K hK => ?_) ?_
        · obtain ⟨q0, q1⟩ := hS.1.two
          go_simp
          exact hK.out _ _ _ rfl rfl rfl (Below.refl _ _)
        simp only [zD, zE, zF]
        refine obs_stepR (Eq.trans (by simp only [zA, zB, zC]; exact rfl) rfl) rfl (fun w' hS hV K hK => ?_) ?_
        · obtain ⟨q0, q1⟩ := hS.1.two
          go_simp
          exact hK.out _ _ _ rfl rfl rfl (Below.refl _ _)
        simp only [zD, zE, zF]
        refine obs_stepR (Eq.trans (by simp only [zA, zB, zC]; exact rfl) rfl) rfl (fun w' hS hV K hK => ?_) ?_
        · have e1 : x 1 = (.pointer (some ⟨w.heap.size, 0, none⟩)) := hV 1 (by decide)
          obtain ⟨q0, q1⟩ := hS.1.two
          go_simp
          exact hK.out _ _ _ rfl rfl rfl (Below.refl _ _)
        simp only [zD, zE, zF]
        refine obs_stepR (Eq.trans (by simp only [zA, zB, zC]; exact rfl) rfl) rfl (fun w' hS hV K hK => ?_) ?_
        · obtain ⟨q0, q1⟩ := hS.1.two
          go_simp
          exact hK.out _ _ _ rfl rfl rfl (Below.refl _ _)
        simp only [zD, zE, zF]
        refine obs_stepR (Eq.trans (by simp only [zA, zB, zC]; exact rfl) rfl) rfl (fun w' hS hV K hK => ?_) ?_
        · obtain ⟨q0, q1⟩ := hS.1.two
          go_simp
          exact hK.out _ _ _ rfl rfl rfl (Below.refl _ _)
        simp only [zD, zE, zF]
        refine obs_stepR (Eq.trans (by simp only [zA, zB, zC]; exact rfl) rfl) rfl (fun w' hS hV K hK => ?_) ?_
        · obtain ⟨q0, q1⟩ := hS.1.two
          go_simp
          exact hK.out _ _ _ rfl rfl rfl (Below.refl _ _)
        simp only [zD, zE, zF]
        refine obs_stepR (Eq.trans (by simp only [zA, zB, zC]; exact rfl) rfl) rfl (fun w' hS hV K hK => ?_) ?_
        · obtain ⟨q0, q1⟩ := hS.1.two
          go_simp
          exact hK.out _ _ _ rfl rfl ⟨_, rfl, Blk.new _ _ _⟩ ((Below.refl _ _).alloc (Nat.le_refl _) _)
        simp only [zD, zE, zF]
        refine obs_stepR (Eq.trans (by simp only [zA, zB, zC]; exact rfl) rfl) rfl (fun w' hS hV K hK => ?_) ?_
        · have e5 : x 5 = (.pointer (some ⟨g, 0, none⟩)) := hV 5 (by decide)
          obtain ⟨g6, e6, h6⟩ := hV 6 (by decide)
          obtain ⟨q0, q1⟩ := hS.1.two
          go_simp
          refine (pick_any g g6 [0, 0, 1] w' hS.2.s' h6 (by decide) (by decide)).mono ?_
          rintro e v1 ⟨r9, hr9, rfl, hd9⟩
          exact hK.out _ _ _ rfl rfl ⟨r9, rfl, by simp at hr9; omega, by simp at hr9; omega⟩ hd9
        simp only [zD, zE, zF]
        refine obs_stepR (Eq.trans (by simp only [zA, zB, zC]; exact rfl) rfl) rfl (fun w' hS hV K hK => ?_) ?_
        · have e4 : x 4 = (.int .i64 (n)) := hV 4 (by decide)
          obtain ⟨g6, e6, h6⟩ := hV 6 (by decide)
          obtain ⟨k7, e7, b7, d7⟩ := hV 7 (by decide)
          obtain ⟨q0, q1⟩ := hS.1.two
          obtain ⟨j, rfl⟩ : ∃ j : Nat, k7 = (j : Int) := ⟨k7.toNat, by omega⟩
          have W9 : IntKind.i64.wrap ((n : Int) + (j : Int)) = ((n + j : Nat) : Int) := (i64_fit _ (by omega) (by omega)).trans (by omega)
          go_simp
          exact hK.out _ _ _ rfl rfl ⟨n + j, rfl, by omega, by omega⟩ (Below.refl _ _)
        simp only [zD, zE, zF]
        refine obs_stepR (Eq.trans (by simp only [zA, zB, zC]; exact rfl) rfl) rfl (fun w' hS hV K hK => ?_) ?_
        · have e0 : x 0 = (.pointer (some ⟨g, 0, none⟩)) := hV 0 (by decide)
          have e2 : x 2 = (.int .i64 (P)) := hV 2 (by decide)
          have e3 : x 3 = (.int .i64 (n)) := hV 3 (by decide)
          obtain ⟨g6, e6, h6⟩ := hV 6 (by decide)
          obtain ⟨k7, e7, b7, d7⟩ := hV 7 (by decide)
          obtain ⟨k8, e8, b8, d8⟩ := hV 8 (by decide)
          obtain ⟨q0, q1⟩ := hS.1.two
          go_simp
          refine (l02Draw_any g P n k8 w' hS.2.s' (by omega) hp2 (by omega) (by omega)).mono ?_
          rintro e v1 ⟨A9, c9, L9, rfl, hT9, ho9, hd9⟩
          exact hK.out _ _ _ rfl rfl ⟨_, _, _, k8, _, rfl, by omega, by omega, by omega, by omega, Rect.of_tab hT9, ho9.base hS.2.size⟩ hd9
        simp only [zD, zE, zF]
        refine obs_stepR (Eq.trans (by simp only [zA, zB, zC]; exact rfl) rfl) rfl (fun w' hS hV K hK => ?_) ?_
        · obtain ⟨g6, e6, h6⟩ := hV 6 (by decide)
          obtain ⟨k7, e7, b7, d7⟩ := hV 7 (by decide)
          obtain ⟨k8, e8, b8, d8⟩ := hV 8 (by decide)
          obtain ⟨A9, r9, c9, m9, L9, e9, t9, u9, v9, x9, y9, h9⟩ := hV 9 (by decide)
          obtain ⟨q0, q1⟩ := hS.1.two
          go_simp
          exact hK.out _ _ _ rfl rfl ⟨_, _, _, _, _, rfl, t9, u9, v9, x9, y9, h9⟩ (Below.refl _ _)
        simp only [zD, zE, zF]
        refine fun w' hS hV => ?_
        have e0 : x 0 = (.pointer (some ⟨g, 0, none⟩)) := hV 0 (by decide)
        have e1 : x 1 = (.pointer (some ⟨w.heap.size, 0, none⟩)) := hV 1 (by decide)
        have e2 : x 2 = (.int .i64 (P)) := hV 2 (by decide)
        have e3 : x 3 = (.int .i64 (n)) := hV 3 (by decide)
        have e4 : x 4 = (.int .i64 (n)) := hV 4 (by decide)
        have e5 : x 5 = (.pointer (some ⟨g, 0, none⟩)) := hV 5 (by decide)
        obtain ⟨g6, e6, h6⟩ := hV 6 (by decide)
        obtain ⟨k7, e7, b7, d7⟩ := hV 7 (by decide)
        obtain ⟨k8, e8, b8, d8⟩ := hV 8 (by decide)
        obtain ⟨A9, r9, c9, m9, L9, e9, t9, u9, v9, x9, y9, h9⟩ := hV 9 (by decide)
        obtain ⟨A10, r10, c10, m10, L10, e10, t10, u10, v10, x10, y10, h10⟩ := hV 10 (by decide)
        simp only [e0, e1, e2, e3, e4, e5, e6, e7, e8, e9, e10]
        clear e0 e1 e2 e3 e4 e5 e6 e7 e8 e9 e10
        refine wpAny_done (by kernel_rfl) ?_ _
        obtain ⟨k6, d6⟩ := hS
        obtain ⟨w6, rfl⟩ : ∃ W, W = w' := ⟨_, rfl⟩
        go_wp2
        go_ret
        exact ⟨_, _, _, _, _, rfl, t10, u10, v10, x10, y10, h10, d6⟩
      · have e9 : (r8 == 0) = false := by simp [h8]
        go_wp2
        refine wp_obsR 10 (Dr g 225) [[], [], [], [2], [], [4], [1, 2, 3, 4, 5], [1, 2, 3, 4, 5, 6], [0, 1, 2, 3, 4, 5, 6, 7], [0, 1, 2, 3, 4, 5, 6, 7, 8]] [[], [], [], [], [], [], [99], [], [], []] (fun x => [VIs (.agg #[.int .i64 P, .slice A n c]), VIs (.pointer (some ⟨g, 0, none⟩)), VIs (.pointer (some ⟨w.heap.size, 0, none⟩)), VIs (.int .i64 (P)), VIs (.agg #[.int .i64 P, .slice A n c]), VIs (.int .i64 (pw n)), VLs w.heap.size (pw n) P, VLs w.heap.size (pw n) P, VRm w.heap.size, VRm w.heap.size]) (fun w' => Blk w' w.heap.size 26 #[.int .i64 P, .slice A n c] ∧ Own w' 0 2 A n c (ints sq) ∧ Dr g 225 w w') (by kernel_rfl) (by kernel_rfl) (fun x x' j hx => by
            rcases j with _ | _ | _ | _ | _ | _ | _ | _ | _ | _ | j
            · rfl
            · rfl
            · rfl
            · rfl
            · rfl
            · rfl
            · rfl
            · rfl
            · rfl
            · rfl
            · rfl)
          (weak_ofR [0, 1, 2, 3, 4, 5, 6, 7, 8, 9] (by decide) (fun k hk x v w w' hp hr => by
            simp only [List.mem_cons, List.not_mem_nil, or_false] at hk
            rcases hk with rfl | rfl | rfl | rfl | rfl | rfl | rfl | rfl | rfl | rfl
            · exact hp
            · exact hp
            · exact hp
            · exact hp
            · exact hp
            · exact hp
            · exact VLs.dr hp hr (by decide)
            · exact VLs.dr hp hr (by decide)
            · exact VRm.dr hp hr (by decide) (by decide)
            · exact VRm.dr hp hr (by decide) (by decide))) (fun j _ _ h hb => hb.either (fun hb => ⟨h.1.below hb h.1.lt, h.2.1.below hb, h.2.2.then hb⟩) (fun hr => ⟨h.1.dr hr (by decide), h.2.1.dr hr (by decide), h.2.2.trans hr⟩)) (⟨k5.drew, o5.below (Below.refl _ _).drew, d5.then (Below.refl _ _).drew⟩) (fun x => ?_)
        refine obs_stepR (Eq.trans (by simp only [zA, zC]; exact rfl) rfl) rfl (fun w' hS hV K hK => ?_) ?_
        · obtain ⟨q0, q1⟩ := hS.1.two
          go_simp
          exact hK.out _ _ _ rfl rfl rfl (Below.refl _ _)
        simp only [zD, zE, zF]
        refine obs_stepR (Eq.trans (by simp only [zA, zB, zC]; exact rfl) rfl) rfl (fun w' hS hV K hK => ?_) ?_
        · obtain ⟨q0, q1⟩ := hS.1.two
          go_simp
          exact hK.out _ _ _ rfl rfl rfl (Below.refl _ _)
        simp only [zD, zE, zF]
        refine obs_stepR (Eq.trans (by simp only [zA, zB, zC]; exact rfl) rfl) rfl (fun w' hS hV K hK => ?_) ?_
        · obtain ⟨q0, q1⟩ := hS.1.two
          go_simp
          exact hK.out _ _ _ rfl rfl rfl (Below.refl _ _)
        simp only [zD, zE, zF]
        refine obs_stepR (Eq.trans (by simp only [zA, zB, zC]; exact rfl) rfl) rfl (fun w' hS hV K hK => ?_) ?_
        · have e2 : x 2 = (.pointer (some ⟨w.heap.size, 0, none⟩)) := hV 2 (by decide)
          obtain ⟨q0, q1⟩ := hS.1.two
          go_simp
          exact hK.out _ _ _ rfl rfl rfl (Below.refl _ _)
        simp only [zD, zE, zF]
        refine obs_stepR (Eq.trans (by simp only [zA, zB, zC]; exact rfl) rfl) rfl (fun w' hS hV K hK => ?_) ?_
        · obtain ⟨q0, q1⟩ := hS.1.two
          go_simp
          exact hK.out _ _ _ rfl rfl rfl (Below.refl _ _)
        simp only [zD, zE, zF]
        refine obs_stepR (Eq.trans (by simp only [zA, zB, zC]; exact rfl) rfl) rfl (fun w' hS hV K hK => ?_) ?_
        · have e4 : x 4 = (.agg #[.int .i64 P, .slice A n c]) := hV 4 (by decide)
          obtain ⟨q0, q1⟩ := hS.1.two
          go_simp
          refine (l04Size_any P A n c w' (by omega)).mono ?_
          rintro e v1 ⟨rfl, hb⟩
          exact hK.out _ _ _ rfl rfl rfl hb
        simp only [zD, zE, zF]
        refine obs_stepR (Eq.trans (by simp only [zA, zB, zC]; exact rfl) rfl) rfl (fun w' hS hV K hK => ?_) ?_
        · have e1 : x 1 = (.pointer (some ⟨g, 0, none⟩)) := hV 1 (by decide)
          have e3 : x 3 = (.int .i64 (P)) := hV 3 (by decide)
          have e5 : x 5 = (.int .i64 (pw n)) := hV 5 (by decide)
          obtain ⟨q0, q1⟩ := hS.1.two
          go_simp
          refine (nextList_any g P (pw n) w' hS.2.2.s' (by omega) (by omega)).mono ?_
          rintro e v1 ⟨A9, c9, xs9, rfl, hl9, hx9, ho9, hd9⟩
          exact hK.out _ _ _ rfl rfl ⟨_, _, xs9, rfl, hl9, nums_of (by omega) hx9, ho9.base hS.2.2.size⟩ hd9
        simp only [zD, zE, zF]
        refine obs_stepR (Eq.trans (by simp only [zA, zB, zC]; exact rfl) rfl) rfl (fun w' hS hV K hK => ?_) ?_
        · obtain ⟨A6, c6, X6, e6, l6, u6, h6⟩ := hV 6 (by decide)
          obtain ⟨q0, q1⟩ := hS.1.two
          go_simp
          refine (l04Part_any A6 (pw n) c6 X6 2 w' (by omega) (by omega) h6.rd).mono ?_
          rintro e v1 ⟨A9, c9, rfl, hM⟩
          exact hK.out _ _ _ rfl rfl ⟨_, _, _, rfl, by rw [partG_len]; exact l6, partG_nums (by omega) u6 2, hM.2.base hS.2.2.size⟩ hM.b
        simp only [zD, zE, zF]
        refine obs_stepR (Eq.trans (by simp only [zA, zB, zC]; exact rfl) rfl) rfl (fun w' hS hV K hK => ?_) ?_
        · have e0 : x 0 = (.agg #[.int .i64 P, .slice A n c]) := hV 0 (by decide)
          obtain ⟨A6, c6, X6, e6, l6, u6, h6⟩ := hV 6 (by decide)
          obtain ⟨A7, c7, X7, e7, l7, u7, h7⟩ := hV 7 (by decide)
          obtain ⟨q0, q1⟩ := hS.1.two
          go_simp
          refine (l10Matrix_any P A n c sq A7 c7 X7 w' (by omega) hp2 hn2 hn1 hS.2.1.rd HQ.out h7.rd u7 HPP.out).mono ?_
          rintro e v1 ⟨A9, c9, rfl, hM⟩
          exact hK.out _ _ _ rfl rfl ⟨_, _, _, n, _, rfl, hn1, by omega, hn1, by omega, Rect.of_tab (by have := transL_tab (p := P) (by omega) (colsL_tab (P := P) (by omega) sq n X7); rwa [colsL_len] at this), (OwnM.of hM).base hS.2.2.size⟩ hM.b
        simp only [zD, zE, zF]
        refine obs_stepR (Eq.trans (by simp only [zA, zB, zC]; exact rfl) rfl) rfl (fun w' hS hV K hK => ?_) ?_
        · obtain ⟨A6, c6, X6, e6, l6, u6, h6⟩ := hV 6 (by decide)
          obtain ⟨A7, c7, X7, e7, l7, u7, h7⟩ := hV 7 (by decide)
          obtain ⟨A8, r8, c8, m8, L8, e8, t8, u8, v8, x8, y8, h8⟩ := hV 8 (by decide)
          obtain ⟨q0, q1⟩ := hS.1.two
          go_simp
          exact hK.out _ _ _ rfl rfl ⟨_, _, _, _, _, rfl, t8, u8, v8, x8, y8, h8⟩ (Below.refl _ _)
        simp only [zD, zE, zF]
        refine fun w' hS hV => ?_
        have e0 : x 0 = (.agg #[.int .i64 P, .slice A n c]) := hV 0 (by decide)
        have e1 : x 1 = (.pointer (some ⟨g, 0, none⟩)) := hV 1 (by decide)
        have e2 : x 2 = (.pointer (some ⟨w.heap.size, 0, none⟩)) := hV 2 (by decide)
        have e3 : x 3 = (.int .i64 (P)) := hV 3 (by decide)
        have e4 : x 4 = (.agg #[.int .i64 P, .slice A n c]) := hV 4 (by decide)
        have e5 : x 5 = (.int .i64 (pw n)) := hV 5 (by decide)
        obtain ⟨A6, c6, X6, e6, l6, u6, h6⟩ := hV 6 (by decide)
        obtain ⟨A7, c7, X7, e7, l7, u7, h7⟩ := hV 7 (by decide)
        obtain ⟨A8, r8, c8, m8, L8, e8, t8, u8, v8, x8, y8, h8⟩ := hV 8 (by decide)
        obtain ⟨A9, r9, c9, m9, L9, e9, t9, u9, v9, x9, y9, h9⟩ := hV 9 (by decide)
        simp only [e0, e1, e2, e3, e4, e5, e6, e7, e8, e9]
        clear e0 e1 e2 e3 e4 e5 e6 e7 e8 e9
        refine wpAny_done (by kernel_rfl) ?_ _
        obtain ⟨k6, o6, d6⟩ := hS
        obtain ⟨w6, rfl⟩ : ∃ W, W = w' := ⟨_, rfl⟩
        go_wp2
        go_ret
        exact ⟨_, _, _, _, _, rfl, t9, u9, v9, x9, y9, h9, d6⟩
/-- A space and a matrix, drawn. -/
def DrewQ (w : World) (e : Ending) (w' : World) : Prop := ∃ (P : Int) (A : Option Addr) (n c : Nat) (sq : List Int) (AL : Option Addr) (r cl m : Nat) (L : List (List Int)), e = .returned (.tuple #[.agg #[.int .i64 P, .slice A n c], .slice AL r cl]) ∧ P ≤ 17 ∧ n ≤ 7 ∧ 0 < r ∧ r ≤ 16 ∧ 1 ≤ m ∧ m ≤ 16 ∧ Rect m L ∧ Own w' w.heap.size 2 A n c (ints sq) ∧ OwnM w' w.heap.size AL r cl L ∧ Below w.heap.size w w'
set_option maxHeartbeats 6400000 in
set_option maxRecDepth 8000 in
theorem DrawCayleyOf_any (B : Option Addr) (nb cb : Nat) (bs : List Int) (w : World) (hnb : nb ≤ 4096) (r : Rd w B nb (bs.map (Value.int .u8))) (hbs : ∀ b ∈ bs, 0 ≤ b ∧ b < 256) (hbg : ∀ a, B = some a → a.block < w.heap.size) :
    Calls Tryz.prog 15 #[.slice B nb cb] w (DrewQ w) := by
  have hB0 : Below w.heap.size w (w.alloc (.cells #[.int .i64 0, .slice none 0 0] 26)) := (Below.refl _ _).alloc (Nat.le_refl _) _
  have k0 : Blk (w.alloc (.cells #[.int .i64 0, .slice none 0 0] 26)) w.heap.size 26 #[.int .i64 0, .slice none 0 0] := Blk.new _ _ _
  have hfr := from__any B nb cb bs (w.alloc (.cells #[.int .i64 0, .slice none 0 0] 26)) hnb (r.below hB0) hbs (fun a e => by have := hbg a e; simp; omega)
  go_enter Tryz.func15, Tryz.ntmps15
  go_wp2_with fail
  refine hfr.mono ?_
  rintro e w2 ⟨g, rfl, hg, hs2, hb2⟩
  have k2 := k0.below hb2 k0.lt
  have hB2 := hB0.trans (hb2.mono hB0.size)
  have hw := hB2.size
  have hgw : w.heap.size ≤ g := Nat.le_trans hB0.size hg
  have hsp := l07Space_any g w2 hs2
  clear hfr hb2 k0 hB0 hg
  go_wp2_with fail
  refine hsp.mono ?_
  rintro e w3 ⟨P, A, n, c, sq, rfl, hP, hn, hO, hd3⟩
  have d4 := hd3.alloc (.cells #[.int .i64 P, .slice A n c] 26)
  have k4 := (k2.dr hd3 (by decide)).alloc (.cells #[.int .i64 P, .slice A n c] 26)
  have kb4 : Blk (w3.alloc (.cells #[.int .i64 P, .slice A n c] 26)) w3.heap.size 26 #[.int .i64 P, .slice A n c] := Blk.new _ _ _
  have hres : w.heap.size < w3.heap.size := Nat.lt_of_lt_of_le (show w.heap.size < w2.heap.size from k2.lt) hd3.size
  have o4 := (hO.base (B' := w.heap.size) hw).below ((Below.refl _ _).alloc (Nat.le_refl _) (.cells #[.int .i64 P, .slice A n c] 26))
  clear hsp k2 hO hd3
  obtain ⟨q0, q1⟩ := kb4.two
  go_wp2
  refine wp_obsR 4 (Dr g 225) [[], [], [], [1, 2], [0, 1, 2, 3], [0, 1, 2, 3]] [[], [], [], [99]] (fun x => [VIs (.agg #[.int .i64 P, .slice A n c]), VIs (.pointer (some ⟨g, 0, none⟩)), VIs (.agg #[.int .i64 P, .slice A n c]), VRm w.heap.size]) (fun w' => Blk w' w.heap.size 26 #[.int .i64 0, .slice none 0 0] ∧ Blk w' w3.heap.size 26 #[.int .i64 P, .slice A n c] ∧ Own w' w.heap.size 2 A n c (ints sq) ∧ Dr g 225 w2 w') (by kernel_rfl) (by kernel_rfl) (fun x x' j hx => by
      rcases j with _ | _ | _ | _ | j
      · rfl
      · rfl
      · rfl
      · rfl
      · rfl)
    (weak_ofR [0, 1, 2, 3] (by decide) (fun k hk x v w w' hp hr => by
      simp only [List.mem_cons, List.not_mem_nil, or_false] at hk
      rcases hk with rfl | rfl | rfl | rfl
      · exact hp
      · exact hp
      · exact hp
      · exact VRm.dr hp hr (by decide) (by decide))) (fun j _ _ h hb => hb.either (fun hb => ⟨h.1.below hb h.1.lt, h.2.1.below hb h.2.1.lt, h.2.2.1.below hb, h.2.2.2.then hb⟩) (fun hr => ⟨h.1.dr hr (by decide), h.2.1.dr hr (by decide), h.2.2.1.dr hr (by decide), h.2.2.2.trans hr⟩)) (⟨k4.drew, kb4.drew, o4.below (Below.refl _ _).drew, d4.then (Below.refl _ _).drew⟩) (fun x => ?_)
  refine obs_stepR (Eq.trans (by simp only [zA, zC]; exact rfl) rfl) rfl (fun w' hS hV K hK => ?_) ?_
  · obtain ⟨q0, q1⟩ := hS.2.1.two
    go_simp
    exact hK.out _ _ _ rfl rfl rfl (Below.refl _ _)
  simp only [zD, zE, zF]
  refine obs_stepR (Eq.trans (by simp only [zA, zB, zC]; exact rfl) rfl) rfl (fun w' hS hV K hK => ?_) ?_
  · obtain ⟨q0, q1⟩ := hS.2.1.two
    go_simp
    exact hK.out _ _ _ rfl rfl rfl (Below.refl _ _)
  simp only [zD, zE, zF]
  refine obs_stepR (Eq.trans (by simp only [zA, zB, zC]; exact rfl) rfl) rfl (fun w' hS hV K hK => ?_) ?_
  · obtain ⟨q0, q1⟩ := hS.2.1.two
    go_simp
    exact hK.out _ _ _ rfl rfl rfl (Below.refl _ _)
  simp only [zD, zE, zF]
  refine obs_stepR (Eq.trans (by simp only [zA, zB, zC]; exact rfl) rfl) rfl (fun w' hS hV K hK => ?_) ?_
  · have e1 : x 1 = (.pointer (some ⟨g, 0, none⟩)) := hV 1 (by decide)
    have e2 : x 2 = (.agg #[.int .i64 P, .slice A n c]) := hV 2 (by decide)
    obtain ⟨q0, q1⟩ := hS.2.1.two
    go_simp
    refine (l10Skewed_any g P A n c sq w' hS.2.2.2.s' (by omega) (hS.2.2.1.base (Nat.zero_le _))).mono ?_
    rintro e v1 ⟨A9, r9, c9, m9, L9, rfl, y1, y2, y3, y4, y5, ho9, hd9⟩
    exact hK.out _ _ _ rfl rfl ⟨A9, r9, c9, m9, L9, rfl, y1, y2, y3, y4, y5, ho9.base (Nat.le_trans hw hS.2.2.2.size)⟩ hd9
  simp only [zD, zE, zF]
  refine fun w' hS hV => ?_
  have e0 : x 0 = (.agg #[.int .i64 P, .slice A n c]) := hV 0 (by decide)
  have e1 : x 1 = (.pointer (some ⟨g, 0, none⟩)) := hV 1 (by decide)
  have e2 : x 2 = (.agg #[.int .i64 P, .slice A n c]) := hV 2 (by decide)
  obtain ⟨A3, r3, c3, m3, L3, e3, t3, u3, v3, x3, y3, h3⟩ := hV 3 (by decide)
  simp only [e0, e1, e2, e3]
  clear e0 e1 e2 e3
  obtain ⟨k5, kb5, o5, d5⟩ := hS
  obtain ⟨w6, rfl⟩ : ∃ W, W = w' := ⟨_, rfl⟩
  clear q0 q1 k4 kb4 o4 d4
  obtain ⟨p0, p1⟩ := k5.two
  have f0 := k5.frozen 0
  have f1 := k5.frozen 1
  refine any_one (j := 4) (by kernel_rfl) (Eq.trans (by simp only [zA, zB, zC]; exact rfl) rfl) (fun K hK => ?_)
  go_simp
  refine hK.out _ _ (any_one (j := 5) (by kernel_rfl) (Eq.trans (by simp only [zA, zB, zC]; exact rfl) rfl) (fun K hK => ?_))
  go_simp
  refine hK.out _ _ (wpAny_done (by kernel_rfl) ?_ _)
  have hf : ∀ {m d : Nat} {A2 : Option Addr} {xs : List Int}, Own w6 w.heap.size 2 A2 m d (ints xs) → Own ((w6.setCell ⟨w.heap.size, 0, none⟩ (.int .i64 P)).setCell ⟨w.heap.size, 1, none⟩ (.slice A n c)) w.heap.size 2 A2 m d (ints xs) := by
    intro m c' A' xs ho
    exact (ho.far k5 (by decide) 0 _).far (k5.set_ 0 (.int .i64 P)) (by decide) 1 _
  have hfM := h3.relB (g := g) (res := w.heap.size) (.inr ⟨0, none, 0, 0, P, A, n, c, k5, rfl⟩)
  go_wp2
  exact bodyPost_ret (v := .tuple #[.agg #[.int .i64 P, .slice A n c], .slice A3 r3 c3]) (by simp [results, Tryz.results15, go_sem, p0, p1]) rfl ⟨P, A, n, c, sq, A3, r3, c3, m3, L3, rfl, hP, hn, t3, u3, v3, x3, y3, hf o5, hfM, hB2.trans (((d5.b.mono hgw).setCell (p := ⟨w.heap.size, 0, none⟩) (Nat.le_refl _) _).setCell (p := ⟨w.heap.size, 1, none⟩) (Nat.le_refl _) _)⟩
end Go.Proofs.YtdbibmilicjllaaGreat
namespace Go.Proofs.YtdbibmilicjllaaGreat
/-- The columns of the matrix of a reflection, and the matrix. -/
def rcolsL (P : Int) (sq : List Int) (n : Nat) (u : List Int) : List (List Int) := tab n fun k => rflL P sq u (unitRow n k)
def rmatL (P : Int) (sq : List Int) (n : Nat) (u : List Int) : List (List Int) := transL (rcolsL P sq n u)
theorem rcolsL_tab {P : Int} (hp : 2 ≤ P) (sq : List Int) (n : Nat) (u : List Int) : Tab P n (rcolsL P sq n u) := Tab.tab fun _ _ => ⟨by rw [rflL_len, unitRow_len], rflL_nums (by omega) _ _ _⟩
theorem rcolsL_len (P : Int) (sq : List Int) (n : Nat) (u : List Int) : (rcolsL P sq n u).length = n := tab_len _ _
theorem rmatL_tab {P : Int} (hp : 2 ≤ P) (sq : List Int) (n : Nat) (u : List Int) : Tab P n (rmatL P sq n u) := by
  have := transL_tab (p := P) (by omega) (rcolsL_tab hp sq n u)
  rwa [rcolsL_len] at this
theorem rmatL_len {P : Int} (hp : 2 ≤ P) (sq : List Int) {n : Nat} (h0 : 0 < n) (u : List Int) : (rmatL P sq n u).length = n := transL_len (rcolsL_tab hp sq n u) (by rw [rcolsL_len]; exact h0)
end Go.Proofs.YtdbibmilicjllaaGreat
namespace Go.Proofs.YtdbibmilicjllaaGreat
open Go.RowKit
set_option maxHeartbeats 3200000 in
set_option maxRecDepth 8000 in
theorem l08Reflection_any (P : Int) (A : Option Addr) (n c : Nat) (sq : List Int) (U : Option Addr) (cu : Nat) (u : List Int) (w : World) (HP : isP P = true) (hn : n ≤ 6) (h0 : 0 < n) (ha : Rd w A n (ints sq)) (hs : NumsL P sq) (hx : Rd w U n (ints u)) (hu : NumsL P u) (hne : ¬ pairL P sq u u = 0) :
    Calls Tryz.prog 331 #[.agg #[.int .i64 P, .slice A n c], .slice U n cu] w fun e w' => ∃ A' c', e = .returned (.slice A' n c') ∧ MkII w w' A' n c' (rmatL P sq n u) := by
  obtain ⟨hp3, hp2⟩ := isP_ge HP
  have hp : 2 ≤ P := by omega
  have hB0 : Below w.heap.size w (w.alloc (.cells #[.int .i64 P, .slice A n c] 26)) := (Below.refl _ _).alloc (Nat.le_refl _) _
  have k0 : Blk (w.alloc (.cells #[.int .i64 P, .slice A n c] 26)) w.heap.size 26 #[.int .i64 P, .slice A n c] := Blk.new _ _ _
  have hB1 := hB0.alloc (by simp) (.cells #[] 24)
  have k1 := k0.alloc (.cells #[] 24)
  have hM1 : MkII w ((w.alloc (.cells #[.int .i64 P, .slice A n c] 26)).alloc (.cells #[] 24)) (some ⟨w.heap.size + 1, 0, none⟩) 0 0 [] := by
    have := MkII.empty hB0
    simpa using this
  clear k0 hB0
  obtain ⟨q0, q1⟩ := k1.two
  have hmk := make_i (P := Tryz.prog) 24 2 Tryz.underlying24 info_i n (by omega)
  have HNE := Lib.hid hne
  clear hne
  go_enter Tryz.func331, Tryz.ntmps331
  go_wp2
  obtain ⟨w1, hw1⟩ : ∃ W, W = (w.alloc (.cells #[.int .i64 P, .slice A n c] 26)).alloc (.cells #[] 24) := ⟨_, rfl⟩
  rw [← hw1] at hM1 k1 ⊢
  clear hw1 hB1 q0 q1
  go_loopw [5, 6] (fun out i wr => ∃ (k : Nat) (A' : Option Addr) (c' : Nat), k ≤ n ∧ i = .int .i64 k ∧ out = .slice A' k c' ∧ MkII w wr A' k c' (tab k fun k => rflL P sq u (unitRow n k)) ∧ Blk wr w.heap.size 26 #[.int .i64 P, .slice A n c]) (fun _ i _ => n - (intOf i).toNat)
  case atStart => exact ⟨0, _, _, by omega, rfl, rfl, by simpa [tab] using hM1, k1⟩
  case round =>
    obtain ⟨k, A', c', hk, rfl, rfl, hM, k4⟩ := hrel
    clear hM1 k1
    obtain ⟨q0, q1⟩ := k4.two
    by_cases hlt : k < n
    · have hm1 := Mk.made (E := 2) (n := n) (z := .int .i64 0) (Below.refl wr.heap.size wr) (by simp only [maxLen]; omega)
      rw [ints_replicate] at hm1
      obtain ⟨u1, hc1⟩ := hm1.2.cellI hlt
      have hf1 := hm1.2.frozen_ k
      have hm2 := (hm1.set k (.int .i64 1)).1
      rw [ints_set, World.setCell_alloc_at _ _ _ _ _ rfl] at hm2
      have HRU := Lib.hid (show MkI wr _ (some ⟨wr.heap.size, 0, none⟩) n n (unitRow n k) from hm2)
      have k5 := k4.below hm2.b k4.lt
      have HM := Lib.hid hM
      have HUN := Lib.hid (unitRow_nums hp n k)
      have HA := Lib.hid (ha.below (hM.b.trans (hm2.b.mono hM.b.size)))
      have HX := Lib.hid (hx.below (hM.b.trans (hm2.b.mono hM.b.size)))
      have HSQ := Lib.hid hs
      have HXS := Lib.hid hu
      have HPP := Lib.hid HP
      have HBW := Lib.hid hm2.b
      have hcall := l07Reflect_any P A n c sq _ cu u _ n (unitRow n k) _ HPP.out hn HA.out HSQ.out HX.out HXS.out HRU.out.rd HUN.out HNE.out
      obtain ⟨q2, q3⟩ := k5.two
      clear hM hm1 hm2
      go_wp2_with fail
      refine hcall.mono ?_
      rintro e w5 ⟨A5, c5, rfl, hM5⟩
      have hM5' := hM5.after HBW.out
      have k6 := k5.below hM5.b k5.lt
      clear hcall hc1 hf1 q0 q1 q2 q3
      go_wp2_with (at_builtin; refine wpList_appRowG w wr _ rfl _ _ rfl A' k c' _ A5 n c5 _ HM.out hM5' (by omega) rfl ?_ ?_; (go_simp); intro A20 c20 w20 hM20 hg20 hat20)
      have k7 := k6.grown hg20 ((HM.out.below hM5'.b).ne_blk k6 (by decide))
      clear k6 hat20 hg20
      go_roundw
      case rel => exact ⟨k + 1, A20, c20, by omega, by go_num, rfl, by rw [tab_succ]; exact hM20, k7⟩
      case measure => simp [intOf]; omega
    · obtain rfl : k = n := by omega
      have HM := Lib.hid hM
      have htr := l02Turn_any P A' k c' (rcolsL P sq k u) k wr h0 (by omega) (by omega) hM.rd (rcolsL_tab hp sq k u)
      have HLK : Hid (rmatL P sq k u = transL (rcolsL P sq k u)) := Lib.hid rfl
      clear hM
      go_wp2_with fail
      refine htr.mono ?_
      rintro e w5 ⟨A5, c5, rfl, hM5⟩
      go_wp2
      go_ret
      rw [HLK.out]
      exact ⟨_, _, rfl, hM5.after HM.out.b⟩
end Go.Proofs.YtdbibmilicjllaaGreat
