/-
  LawFnDecompositions: part 12 of the texts that the proof needs. No condition.
-/
import Derived.Test.YtdbibmilicjllaaGreatQ11
namespace Go.Proofs.YtdbibmilicjllaaGreat
open Go.RowKit
set_option maxHeartbeats 12800000 in
set_option maxRecDepth 8000 in
theorem l08Decompose_any (P : Int) (A : Option Addr) (n c : Nat) (sq : List Int) (D : Option Addr) (d : Nat) (M : List (List Int)) (w : World) (hsp : isSp P sq = true) (hreg : regB sq = true) (ha : Rd w A n (ints sq)) (hd : RdII w D n M) (hiso : isoB P sq M = true) :
    Calls Tryz.prog 155 #[.agg #[.int .i64 P, .slice A n c], .slice D n d] w fun e w' => ∃ (A' : Option Addr) (c' : Nat), e = .returned (.slice A' (decL P sq M).length c') ∧ MkO w w' A' (decL P sq M).length c' (decL P sq M) := by
  have hsl := ha.lenI
  obtain ⟨HP, hd1, hd2, hnum⟩ := isSp_dim hsp
  obtain ⟨hp3, hp2⟩ := isP_ge HP
  have hs := nums_numsL hnum
  obtain ⟨hl, hT⟩ := isoB_frame hiso
  have HDEC := Lib.hid (isoB_dec HP (show 2 ≤ P by omega) hd1 hs hreg hT hl hiso)
  obtain ⟨t, ht⟩ : ∃ t : Nat → List (List Int) × List (List Int), t = decTo P sq sq.length M := ⟨_, rfl⟩
  have HSTEP : Hid (∀ k, t (k + 1) = decS P sq n (t k) k) := Lib.hid fun k => by rw [ht, ← hsl]; rfl
  have HT0 : Hid (t 0 = ([], M)) := Lib.hid (by rw [ht]; rfl)
  have HTN : Hid ((t n).1 = decL P sq M) := Lib.hid (by rw [ht, ← hsl]; rfl)
  have HALL : Hid (∀ k, k ≤ n → (t k).1.length ≤ 2 * k ∧ (∀ v ∈ (t k).1, v.length = n ∧ NumsL P v ∧ ¬ pairL P sq v v = 0) ∧ Tab P n (t k).2 ∧ (t k).2.length = n) := Lib.hid fun k hk => by
    obtain ⟨h1, h2, x, hx, -⟩ := HDEC.out k (by omega)
    rw [ht]
    refine ⟨h1, fun v hv => ?_, ?_, ?_⟩
    · obtain ⟨g1, g2, g3⟩ := h2 v hv
      exact ⟨by omega, g2, fun e => g3 ((bil_same HP g1).1 e)⟩
    · rw [hx, ← hsl]; exact x.tab
    · rw [hx, x.len, hsl]
  rw [hsl] at hd1 hd2
  have HQ := Lib.hid hs
  have HPP := Lib.hid HP
  have HA := Lib.hid ha
  have HD := Lib.hid hd
  clear HDEC hsp hreg hiso hl hT hs hnum HP ha hd
  have k0 : Blk (w.alloc (.cells #[.int .i64 P, .slice A n c] 26)) w.heap.size 26 #[.int .i64 P, .slice A n c] := Blk.new _ _ _
  have k1 := k0.alloc (.cells #[] 24)
  have hO1 : MkO w ((w.alloc (.cells #[.int .i64 P, .slice A n c] 26)).alloc (.cells #[] 24)) (some ⟨w.heap.size + 1, 0, none⟩) 0 0 [] := by
    have := (MkII.empty (w0 := w) (w := (w.alloc (.cells #[.int .i64 P, .slice A n c] 26))) ((Below.refl _ _).alloc (Nat.le_refl _) _)).o
    simpa using this
  clear k0
  have hmk := make_i (P := Tryz.prog) 24 2 Tryz.underlying24 info_i n (by omega)
  go_enter Tryz.func155, Tryz.ntmps155
  go_wp2
  obtain ⟨w1, hw1⟩ : ∃ W, W = (w.alloc (.cells #[.int .i64 P, .slice A n c] 26)).alloc (.cells #[] 24) := ⟨_, rfl⟩
  rw [← hw1] at hO1 k1 ⊢
  clear hw1
  go_loopw [1, 5, 6] (fun mv lv iv wr => ∃ (k : Nat) (Am : Option Addr) (cm : Nat) (Al : Option Addr) (cl : Nat), k ≤ n ∧ iv = .int .i64 k ∧ mv = .slice Am n cm ∧ lv = .slice Al (t k).1.length cl ∧ MkO w wr Al (t k).1.length cl (t k).1 ∧ KM w wr (.slice Al (t k).1.length cl) Am n cm (t k).2 ∧ Blk wr w.heap.size 26 #[.int .i64 P, .slice A n c]) (fun _ _ iv _ => n - (intOf iv).toNat)
  case atStart => exact ⟨0, D, d, _, _, by omega, rfl, rfl, by rw [HT0.out]; rfl, by rw [HT0.out]; exact hO1, by rw [HT0.out]; exact .inl HD.out, k1⟩
  case round =>
    obtain ⟨k, Am, cm, Al, cl, hk, rfl, rfl, rfl, hO, hKM, k4⟩ := hrel
    clear hO1 k1
    obtain ⟨q0, q1⟩ := k4.two
    by_cases hlt : k < n
    · skip
      obtain ⟨hlen, hgood, hTM, hML⟩ := HALL.out k hk
      obtain ⟨L, hLe⟩ : ∃ L, L = (t k).1 := ⟨_, rfl⟩
      obtain ⟨MM, hMe⟩ : ∃ X, X = (t k).2 := ⟨_, rfl⟩
      have HS1 := Lib.hid (HSTEP.out k)
      have HN1 := Lib.hid (HALL.out (k + 1) (by omega))
      rw [← hLe] at hlen hgood hO hKM ⊢
      rw [← hMe] at hTM hML hKM
      have HTK : Hid (t k = (L, MM)) := Lib.hid (by rw [hLe, hMe])
      have HLN := Lib.hid hlen
      clear hLe hMe hgood
      have hrm := hKM.rd hO.b
      have HTM := Lib.hid hTM
      have HML := Lib.hid hML
      obtain ⟨W, hW⟩ : ∃ W, W = decW n MM k := ⟨_, rfl⟩
      have hWok : W.length = n ∧ NumsL P W := by
        rw [hW]
        obtain ⟨x1, x2⟩ := trans_ok (show 0 < P by omega) hTM hML hd1
        exact x1.row (by omega)
      obtain ⟨E, hE⟩ : ∃ E, E = unitRow n k := ⟨_, rfl⟩
      have hEok : E.length = n ∧ NumsL P E := by rw [hE]; exact ⟨unitRow_len _ _, unitRow_nums (by omega) _ _⟩
      have HWK := Lib.hid hWok
      have HEK := Lib.hid hEok
      have HWE := Lib.hid hW
      have HEE := Lib.hid hE
      have HSTP : Hid (t (k + 1) = if W = E then (L, MM) else if pairL P sq (plusL P W E (-1)) (plusL P W E (-1)) = 0 then (L ++ [plusL P W E 1, E], timesM P (rmatL P sq n E) (timesM P (rmatL P sq n (plusL P W E 1)) MM)) else (L ++ [plusL P W E (-1)], timesM P (rmatL P sq n (plusL P W E (-1))) MM)) := Lib.hid (by
        rw [HS1.out, HTK.out]
        unfold decS
        rw [← hW, ← hE])
      clear hTM hWok hEok hW hE HS1
      have hcall := l02Turn_any P Am n cm MM n wr hd1 (by omega) (by omega) hrm HTM.out
      have HO := Lib.hid hO
      have HKM := Lib.hid hKM
      clear hO hKM hrm
      go_wp2_with fail
      refine hcall.mono ?_
      rintro e w5 ⟨A5, c5, rfl, hM5⟩
      have hb5 := hM5.b
      obtain ⟨g5, o5, rfl, hx5, Aw, cw, hcw, hrw, -⟩ := hM5.rd.at_ hlt
      have eW : (transL MM)[k] = W := by rw [HWE.out]; unfold decW; rw [getD_of_lt [] hx5]
      rw [eW, HWK.out.1] at hcw
      rw [eW, HWK.out.1] at hrw
      have HRW := Lib.hid hrw
      have k5 := k4.below hb5 k4.lt
      clear hcall hM5 eW hx5 q0 q1 hrw
      obtain ⟨q0, q1⟩ := k5.two
      have hm1 := Mk.made (E := 2) (n := n) (z := .int .i64 0) (Below.refl w5.heap.size w5) (by simp only [maxLen]; omega)
      rw [ints_replicate] at hm1
      obtain ⟨u1, hc1⟩ := hm1.2.cellI hlt
      have hf1 := hm1.2.frozen_ k
      have hm2 := (hm1.set k (.int .i64 1)).1
      rw [ints_set, World.setCell_alloc_at _ _ _ _ _ rfl] at hm2
      have HRU0 : MkI w5 _ (some ⟨w5.heap.size, 0, none⟩) n n (unitRow n k) := hm2
      rw [← HEE.out] at HRU0
      have HRU := Lib.hid HRU0
      have hbE := hm2.b
      have k6 := k5.below hbE k5.lt
      have hcall := l01Same_any Aw (some ⟨w5.heap.size, 0, none⟩) n n cw n W E _ (by omega) (by omega) (HRW.out.below hbE) HRU.out.rd
      obtain ⟨q2, q3⟩ := k6.two
      clear hm1 hm2 HRU0
      by_cases h1 : W = E
      · rw [decide_eq_true h1] at hcall
        have HTT : Hid (t (k + 1) = (L, MM)) := Lib.hid (by rw [HSTP.out, if_pos h1])
        clear HSTP HN1 h1
        go_wp2_with fail
        refine hcall.mono ?_
        rintro e w7 ⟨rfl, j7, hw7⟩
        have hb7 := below_drewN hbE j7
        rw [← hw7] at hb7
        have HE7 := Lib.hid (show Own w7 0 2 (some ⟨w5.heap.size, 0, none⟩) n n (ints E) from by rw [hw7]; exact (HRU.out.2.below (below_drewN (Below.refl _ _) j7)).base (Nat.zero_le _))
        have k7 := k5.below hb7 k5.lt
        have hB7 := hb5.trans (hb7.mono hb5.size)
        clear hcall hw7 hc1 hf1 q0 q1 q2 q3 k6 k5 hbE hcw HRU
        have hO8 := HO.out.below hB7
        have hK8 := HKM.out.below hB7
        go_wp2
        go_roundw
        case rel => exact ⟨k + 1, Am, cm, Al, cl, by omega, by go_num, rfl, by rw [HTT.out], by rw [HTT.out]; exact hO8, by rw [HTT.out]; exact hK8, k7⟩
        case measure => simp [intOf]; omega
      · rw [decide_eq_false h1] at hcall
        have HS2 : Hid (t (k + 1) = if pairL P sq (plusL P W E (-1)) (plusL P W E (-1)) = 0 then (L ++ [plusL P W E 1, E], timesM P (rmatL P sq n E) (timesM P (rmatL P sq n (plusL P W E 1)) MM)) else (L ++ [plusL P W E (-1)], timesM P (rmatL P sq n (plusL P W E (-1))) MM)) := Lib.hid (by rw [HSTP.out, if_neg h1])
        clear HSTP h1
        go_wp2_with fail
        refine hcall.mono ?_
        rintro e w7 ⟨rfl, j7, hw7⟩
        have hb7 := below_drewN hbE j7
        rw [← hw7] at hb7
        have HE7 := Lib.hid (show Own w7 0 2 (some ⟨w5.heap.size, 0, none⟩) n n (ints E) from by rw [hw7]; exact (HRU.out.2.below (below_drewN (Below.refl _ _) j7)).base (Nat.zero_le _))
        have k7 := k5.below hb7 k5.lt
        have hB7 := hb5.trans (hb7.mono hb5.size)
        clear hcall hw7 hc1 hf1 q0 q1 q2 q3 k6 k5 hbE hcw HRU
        have hO7 := HO.out.below hB7
        have hKM7 := HKM.out.below hB7
        obtain ⟨dl, hdl⟩ : ∃ x, x = plusL P W E (-1) := ⟨_, rfl⟩
        have W1 : IntKind.i64.wrap (P - 1) = P - 1 := i64_fit _ (by omega) (by omega)
        have hcall := l02Plus_any P Aw n cw (some ⟨w5.heap.size, 0, none⟩) n n (P - 1) W E w7 (by omega) hp2 (by omega) (Nat.le_refl _) (HRW.out.below hb7) HWK.out.2 HE7.out.rd HEK.out.2 (by omega) (by omega)
        rw [show plusL P W E (P - 1) = dl by rw [hdl]; exact plusL_mod P W E (by rw [show P - 1 = -1 + P by omega, Int.add_emod_right])] at hcall
        have hdok : dl.length = n ∧ NumsL P dl := by rw [hdl]; exact ⟨(plusL_len _ _ _ _).trans HWK.out.1, plusL_nums (by omega) _ _ _⟩
        rw [← hdl] at HS2
        have HDK := Lib.hid hdok
        clear hdl hdok
        obtain ⟨q0, q1⟩ := k7.two
        go_wp2_with fail
        refine hcall.mono ?_
        rintro e w8 ⟨Ad, cd, rfl, hM8⟩
        have hb8 := hM8.b
        have HD8 := Lib.hid (show Own w8 0 2 Ad n cd (ints dl) from hM8.2.base (Nat.zero_le _))
        have HE8 := Lib.hid (HE7.out.below hb8)
        have HRW8 := Lib.hid (HRW.out.below (hb7.trans (hb8.mono hb7.size)))
        replace hO7 := hO7.below hb8
        replace hKM7 := hKM7.below hb8
        have k8 := k7.below hb8 k7.lt
        clear hcall hM8 q0 q1 k7 hb7 hB7 HE7 HRW
        obtain ⟨q0, q1⟩ := k8.two
        have hcall := l03Pair_any P A n c sq Ad cd dl Ad cd dl w8 (by omega) hp2 hd2 (HA.out.below hO7.b) HQ.out HD8.out.rd HDK.out.2 HD8.out.rd HDK.out.2
        obtain ⟨z, hz⟩ : ∃ z, z = pairL P sq dl dl := ⟨_, rfl⟩
        rw [← hz] at hcall HS2
        by_cases hz0 : z = 0
        · have e8 : (z != 0) = false := by simp [hz0]
          rw [if_pos hz0] at HS2
          clear hz hz0
          go_wp2_with fail
          refine hcall.mono ?_
          rintro e w9 ⟨rfl, hb9⟩
          replace hO7 := hO7.below hb9
          replace hKM7 := hKM7.below hb9
          have k9 := k8.below hb9 k8.lt
          have HE9 := Lib.hid (HE8.out.below hb9)
          have HRW9 := Lib.hid (HRW8.out.below hb9)
          clear hcall q0 q1 k8 hb8 hb9 HD8 HDK HE8 HRW8
          obtain ⟨q0, q1⟩ := k9.two
          obtain ⟨dl2, hdl⟩ : ∃ x, x = plusL P W E 1 := ⟨_, rfl⟩
          have hcall := l02Plus_any P Aw n cw (some ⟨w5.heap.size, 0, none⟩) n n 1 W E w9 (by omega) hp2 (by omega) (Nat.le_refl _) HRW9.out HWK.out.2 HE9.out.rd HEK.out.2 (by omega) (by omega)
          have hdok : dl2.length = n ∧ NumsL P dl2 := by rw [hdl]; exact ⟨(plusL_len _ _ _ _).trans HWK.out.1, plusL_nums (by omega) _ _ _⟩
          rw [← hdl] at HS2 hcall
          have HDK := Lib.hid hdok
          have hNN := HN1.out
          rw [HS2.out] at hNN
          have HNE := Lib.hid (show (¬ pairL P sq dl2 dl2 = 0) ∧ ¬ pairL P sq E E = 0 from ⟨(hNN.2.1 dl2 (by simp)).2.2, (hNN.2.1 E (by simp)).2.2⟩)
          clear hdl hdok hNN HN1
          go_wp2_with fail
          refine hcall.mono ?_
          rintro e w10 ⟨Ad, cd, rfl, hM10⟩
          have hb10 := hM10.b
          have hd10 : Own w10 0 2 Ad n cd (ints dl2) := hM10.2.base (Nat.zero_le _)
          have he10 := HE9.out.below hb10
          replace hO7 := hO7.below hb10
          replace hKM7 := hKM7.below hb10
          have k10 := k9.below hb10 k9.lt
          have HO7 := Lib.hid hO7
          have HKM7 := Lib.hid hKM7
          have HD10 := Lib.hid hd10
          have HE10 := Lib.hid he10
          have HLB := Lib.hid (show L.length ≤ 1099511627700 by have := HLN.out; omega)
          clear hcall q0 q1 k9 hb10 hM10 HE9 HRW9 hO7 hKM7 hd10 he10
          obtain ⟨q0, q1⟩ := k10.two
          go_wp2_with (at_builtin; (refine wpList_appTwoO w w10 rfl _ _ rfl Al L.length cl L Ad n cd dl2 (some ⟨w5.heap.size, 0, none⟩) n n E HO7.out HD10.out HE10.out HLB.out rfl ?_ ?_; (go_simp); intro A20 c20 wq hO20 hg20 hat20))
          have hB7 := hO20.b
          have hKM20 := HKM7.out.app (m' := L.length + 2) (d' := c20) HO7.out hg20 hB7 (Nat.le_refl _) hat20
          have hd20 := HO7.out.keepO HD10.out hg20
          have he20 := HO7.out.keepO HE10.out hg20
          have k9 := k10.grown hg20 (HO7.out.ne_blk k10 (by decide))
          have HRM := Lib.hid (hKM20.rd hB7)
          have HRF := Lib.hid fun (w' : World) (h : Below wq.heap.size wq w') => l08Reflection_any P A n c sq Ad cd dl2 w' HPP.out hd2 hd1 ((HA.out.below hB7).below h) HQ.out (hd20.below h).rd HDK.out.2 HNE.out.1
          have HRE := Lib.hid fun (w' : World) (h : Below wq.heap.size wq w') => l08Reflection_any P A n c sq (some ⟨w5.heap.size, 0, none⟩) n E w' HPP.out hd2 hd1 ((HA.out.below hB7).below h) HQ.out (he20.below h).rd HEK.out.2 HNE.out.2
          have HTI := Lib.hid fun (w' : World) (B : Option Addr) (d' : Nat) (h : Below wq.heap.size wq w') (hb : RdII w' B n (rmatL P sq n dl2)) => l02Times_any P B n d' (rmatL P sq n dl2) Am cm MM w' (by omega) hp2 hd1 (by omega) hb (rmatL_tab (by omega) sq n dl2) (HRM.out.below h) HTM.out
          have HT2 := Lib.hid fun (w' : World) (B : Option Addr) (d' : Nat) (C : Option Addr) (f : Nat) (hb : RdII w' B n (rmatL P sq n E)) (hc : RdII w' C n (timesM P (rmatL P sq n dl2) MM)) => l02Times_any P B n d' (rmatL P sq n E) C f (timesM P (rmatL P sq n dl2) MM) w' (by omega) hp2 hd1 (by omega) hb (rmatL_tab (by omega) sq n E) hc (timesM_tab (by omega) hd1 HTM.out HML.out)
          have HTT := HS2
          have hO7 := hO20
          clear HS2 hO20 hg20 hat20 hKM20 hd20 he20 HO7 HKM7 HD10 HE10 k10 q0 q1
          obtain ⟨q0, q1⟩ := k9.two
          go_wp2
          refine wp_obs 13 [[], [0], [], [], [2, 3], [], [5], [], [], [7, 8], [], [5, 6, 7, 8, 9, 10], [0, 1, 2, 3, 4, 5, 6, 7, 8, 9, 10, 11], [0, 1, 2, 3, 4, 5, 6, 7, 8, 9, 10, 11, 12]] [VIs (.pointer (some ⟨w.heap.size, 0, none⟩)), VIs (.int .i64 (P)), VIs (.agg #[.int .i64 P, .slice A n c]), VIs (.slice (some ⟨w5.heap.size, 0, none⟩) n n), VMat wq n (rmatL P sq n E), VIs (.pointer (some ⟨w.heap.size, 0, none⟩)), VIs (.int .i64 (P)), VIs (.agg #[.int .i64 P, .slice A n c]), VIs (.slice Ad n cd), VMat wq n (rmatL P sq n dl2), VIs (.slice Am n cm), VMat wq n (timesM P (rmatL P sq n dl2) MM), VMat wq n (timesM P (rmatL P sq n E) (timesM P (rmatL P sq n dl2) MM))] (fun w' => Blk w' w.heap.size 26 #[.int .i64 P, .slice A n c] ∧ Below wq.heap.size wq w') (by kernel_rfl) (by kernel_rfl) (fun _ _ h hb => ⟨h.1.below hb h.1.lt, h.2.trans (hb.mono h.2.size)⟩) (⟨k9.drew, (Below.refl _ _).drew⟩) (fun x => ?_)
          refine obs_step (Eq.trans (by simp only [zA, zC]; exact rfl) rfl) rfl (fun w' hS hV K hK => ?_) ?_
          · obtain ⟨q0, q1⟩ := hS.1.two
            go_simp
            exact hK.out _ _ _ rfl rfl rfl (Below.refl _ _)
          simp only [zD, zE, zF]
          refine obs_step (Eq.trans (by simp only [zA, zB, zC]; exact rfl) rfl) rfl (fun w' hS hV K hK => ?_) ?_
          · have e0 : x 0 = (.pointer (some ⟨w.heap.size, 0, none⟩)) := hV 0 (by decide)
            obtain ⟨q0, q1⟩ := hS.1.two
            go_simp
            exact hK.out _ _ _ rfl rfl rfl (Below.refl _ _)
          simp only [zD, zE, zF]
          refine obs_step (Eq.trans (by simp only [zA, zB, zC]; exact rfl) rfl) rfl (fun w' hS hV K hK => ?_) ?_
          · obtain ⟨q0, q1⟩ := hS.1.two
            go_simp
            exact hK.out _ _ _ rfl rfl rfl (Below.refl _ _)
          simp only [zD, zE, zF]
          refine obs_step (Eq.trans (by simp only [zA, zB, zC]; exact rfl) rfl) rfl (fun w' hS hV K hK => ?_) ?_
          · obtain ⟨q0, q1⟩ := hS.1.two
            go_simp
            exact hK.out _ _ _ rfl rfl rfl (Below.refl _ _)
          simp only [zD, zE, zF]
          refine obs_step (Eq.trans (by simp only [zA, zB, zC]; exact rfl) rfl) rfl (fun w' hS hV K hK => ?_) ?_
          · have e2 : x 2 = (.agg #[.int .i64 P, .slice A n c]) := hV 2 (by decide)
            have e3 : x 3 = (.slice (some ⟨w5.heap.size, 0, none⟩) n n) := hV 3 (by decide)
            obtain ⟨q0, q1⟩ := hS.1.two
            go_simp
            refine (HRE.out w' hS.2).mono ?_
            rintro e v1 ⟨A9, c9, rfl, hM⟩
            exact hK.out _ _ _ rfl rfl ⟨_, _, rfl, hM.after hS.2⟩ hM.b
          simp only [zD, zE, zF]
          refine obs_step (Eq.trans (by simp only [zA, zB, zC]; exact rfl) rfl) rfl (fun w' hS hV K hK => ?_) ?_
          · obtain ⟨q0, q1⟩ := hS.1.two
            go_simp
            exact hK.out _ _ _ rfl rfl rfl (Below.refl _ _)
          simp only [zD, zE, zF]
          refine obs_step (Eq.trans (by simp only [zA, zB, zC]; exact rfl) rfl) rfl (fun w' hS hV K hK => ?_) ?_
          · have e5 : x 5 = (.pointer (some ⟨w.heap.size, 0, none⟩)) := hV 5 (by decide)
            obtain ⟨q0, q1⟩ := hS.1.two
            go_simp
            exact hK.out _ _ _ rfl rfl rfl (Below.refl _ _)
          simp only [zD, zE, zF]
          refine obs_step (Eq.trans (by simp only [zA, zB, zC]; exact rfl) rfl) rfl (fun w' hS hV K hK => ?_) ?_
          · obtain ⟨q0, q1⟩ := hS.1.two
            go_simp
            exact hK.out _ _ _ rfl rfl rfl (Below.refl _ _)
          simp only [zD, zE, zF]
          refine obs_step (Eq.trans (by simp only [zA, zB, zC]; exact rfl) rfl) rfl (fun w' hS hV K hK => ?_) ?_
          · obtain ⟨q0, q1⟩ := hS.1.two
            go_simp
            exact hK.out _ _ _ rfl rfl rfl (Below.refl _ _)
          simp only [zD, zE, zF]
          refine obs_step (Eq.trans (by simp only [zA, zB, zC]; exact rfl) rfl) rfl (fun w' hS hV K hK => ?_) ?_
          · have e7 : x 7 = (.agg #[.int .i64 P, .slice A n c]) := hV 7 (by decide)
            have e8 : x 8 = (.slice Ad n cd) := hV 8 (by decide)
            obtain ⟨q0, q1⟩ := hS.1.two
            go_simp
            refine (HRF.out w' hS.2).mono ?_
            rintro e v1 ⟨A9, c9, rfl, hM⟩
            exact hK.out _ _ _ rfl rfl ⟨_, _, rfl, hM.after hS.2⟩ hM.b
          simp only [zD, zE, zF]
          refine obs_step (Eq.trans (by simp only [zA, zB, zC]; exact rfl) rfl) rfl (fun w' hS hV K hK => ?_) ?_
          · obtain ⟨q0, q1⟩ := hS.1.two
            go_simp
            exact hK.out _ _ _ rfl rfl rfl (Below.refl _ _)
          simp only [zD, zE, zF]
          refine obs_step (Eq.trans (by simp only [zA, zB, zC]; exact rfl) rfl) rfl (fun w' hS hV K hK => ?_) ?_
          · have e6 : x 6 = (.int .i64 (P)) := hV 6 (by decide)
            obtain ⟨A9, c9, e9, h9⟩ := hV 9 (by decide)
            have e10 : x 10 = (.slice Am n cm) := hV 10 (by decide)
            obtain ⟨q0, q1⟩ := hS.1.two
            go_simp
            refine (HTI.out w' _ _ hS.2 h9.rd).mono ?_
            rintro e v1 ⟨A9, c9, rfl, hM⟩
            exact hK.out _ _ _ rfl rfl ⟨_, _, rfl, hM.after hS.2⟩ hM.b
          simp only [zD, zE, zF]
          refine obs_step (Eq.trans (by simp only [zA, zB, zC]; exact rfl) rfl) rfl (fun w' hS hV K hK => ?_) ?_
          · have e1 : x 1 = (.int .i64 (P)) := hV 1 (by decide)
            obtain ⟨A4, c4, e4, h4⟩ := hV 4 (by decide)
            obtain ⟨A9, c9, e9, h9⟩ := hV 9 (by decide)
            obtain ⟨A11, c11, e11, h11⟩ := hV 11 (by decide)
            obtain ⟨q0, q1⟩ := hS.1.two
            go_simp
            refine (HT2.out w' _ _ _ _ h4.rd h11.rd).mono ?_
            rintro e v1 ⟨A9, c9, rfl, hM⟩
            exact hK.out _ _ _ rfl rfl ⟨_, _, rfl, hM.after hS.2⟩ hM.b
          simp only [zD, zE, zF]
          refine fun w' hS hV => ?_
          have e0 : x 0 = (.pointer (some ⟨w.heap.size, 0, none⟩)) := hV 0 (by decide)
          have e1 : x 1 = (.int .i64 (P)) := hV 1 (by decide)
          have e2 : x 2 = (.agg #[.int .i64 P, .slice A n c]) := hV 2 (by decide)
          have e3 : x 3 = (.slice (some ⟨w5.heap.size, 0, none⟩) n n) := hV 3 (by decide)
          obtain ⟨A4, c4, e4, h4⟩ := hV 4 (by decide)
          have e5 : x 5 = (.pointer (some ⟨w.heap.size, 0, none⟩)) := hV 5 (by decide)
          have e6 : x 6 = (.int .i64 (P)) := hV 6 (by decide)
          have e7 : x 7 = (.agg #[.int .i64 P, .slice A n c]) := hV 7 (by decide)
          have e8 : x 8 = (.slice Ad n cd) := hV 8 (by decide)
          obtain ⟨A9, c9, e9, h9⟩ := hV 9 (by decide)
          have e10 : x 10 = (.slice Am n cm) := hV 10 (by decide)
          obtain ⟨A11, c11, e11, h11⟩ := hV 11 (by decide)
          obtain ⟨A12, c12, e12, h12⟩ := hV 12 (by decide)
          simp only [e0, e1, e2, e3, e4, e5, e6, e7, e8, e9, e10, e11, e12]
          clear e0 e1 e2 e3 e4 e5 e6 e7 e8 e9 e10 e11 e12
          refine any_one (j := 13) (by kernel_rfl) (Eq.trans (by simp only [zA, zB, zC]; exact rfl) rfl) (fun K hK => ?_)
          go_simp
          refine hK.out _ _ (wpAny_done (by kernel_rfl) ?_ _)
          have hbq := hS.2
          have k8 := hS.1
          obtain ⟨wn, rfl⟩ : ∃ W, W = w' := ⟨_, rfl⟩
          have hO8 := hO7.below hbq
          have hK8 := KM.new h12 hO7 hB7
          clear hS HRF HRE HTI HT2 k9 q0 q1
          go_wp2
          go_roundw
          case rel => exact ⟨k + 1, A12, c12, A20, c20, by omega, by go_num, rfl, by rw [HTT.out]; simp, by rw [HTT.out]; simpa using hO8, by rw [HTT.out]; simpa using hK8, k8⟩
          case measure => simp [intOf]; omega
        · have e8 : (z != 0) = true := by simp [hz0]
          rw [if_neg hz0] at HS2
          have HNE := Lib.hid (show ¬ pairL P sq dl dl = 0 by rw [← hz]; exact hz0)
          clear hz hz0 HN1
          go_wp2_with fail
          refine hcall.mono ?_
          rintro e w9 ⟨rfl, hb9⟩
          replace hO7 := hO7.below hb9
          replace hKM7 := hKM7.below hb9
          have k10 := k8.below hb9 k8.lt
          have HO7 := Lib.hid hO7
          have HKM7 := Lib.hid hKM7
          have HD10 := Lib.hid (HD8.out.below hb9)
          have HLB := Lib.hid (show L.length ≤ 1099511627776 by have := HLN.out; omega)
          clear hcall q0 q1 k8 hb8 hb9 hO7 hKM7 HD8 HE8 HRW8
          obtain ⟨q0, q1⟩ := k10.two
          go_wp2_with (at_builtin; (refine wpList_appRowO w w9 rfl _ _ rfl Al L.length cl L Ad n cd dl HO7.out HD10.out HLB.out rfl ?_ ?_; (go_simp); intro A20 c20 wq hO20 hg20 hat20))
          have hB7 := hO20.b
          have hKM20 := HKM7.out.app (m' := L.length + 1) (d' := c20) HO7.out hg20 hB7 (Nat.le_refl _) hat20
          have hd20 := HO7.out.keepO HD10.out hg20
          have k9 := k10.grown hg20 (HO7.out.ne_blk k10 (by decide))
          have HRM := Lib.hid (hKM20.rd hB7)
          have HRF := Lib.hid fun (w' : World) (h : Below wq.heap.size wq w') => l08Reflection_any P A n c sq Ad cd dl w' HPP.out hd2 hd1 ((HA.out.below hB7).below h) HQ.out (hd20.below h).rd HDK.out.2 HNE.out
          have HTI := Lib.hid fun (w' : World) (B : Option Addr) (d' : Nat) (h : Below wq.heap.size wq w') (hb : RdII w' B n (rmatL P sq n dl)) => l02Times_any P B n d' (rmatL P sq n dl) Am cm MM w' (by omega) hp2 hd1 (by omega) hb (rmatL_tab (by omega) sq n dl) (HRM.out.below h) HTM.out
          have HTT := HS2
          have hO7 := hO20
          clear HS2 hO20 hg20 hat20 hKM20 hd20 HO7 HKM7 HD10 k10 q0 q1
          obtain ⟨q0, q1⟩ := k9.two
          go_wp2
          refine wp_obs 7 [[], [0], [], [], [2, 3], [], [0, 1, 2, 3, 4, 5], [0, 1, 2, 3, 4, 5, 6]] [VIs (.pointer (some ⟨w.heap.size, 0, none⟩)), VIs (.int .i64 (P)), VIs (.agg #[.int .i64 P, .slice A n c]), VIs (.slice Ad n cd), VMat wq n (rmatL P sq n dl), VIs (.slice Am n cm), VMat wq n (timesM P (rmatL P sq n dl) MM)] (fun w' => Blk w' w.heap.size 26 #[.int .i64 P, .slice A n c] ∧ Below wq.heap.size wq w') (by kernel_rfl) (by kernel_rfl) (fun _ _ h hb => ⟨h.1.below hb h.1.lt, h.2.trans (hb.mono h.2.size)⟩) (⟨k9.drew, (Below.refl _ _).drew⟩) (fun x => ?_)
          refine obs_step (Eq.trans (by simp only [zA, zC]; exact rfl) rfl) rfl (fun w' hS hV K hK => ?_) ?_
          · obtain ⟨q0, q1⟩ := hS.1.two
            go_simp
            exact hK.out _ _ _ rfl rfl rfl (Below.refl _ _)
          simp only [zD, zE, zF]
          refine obs_step (Eq.trans (by simp only [zA, zB, zC]; exact rfl) rfl) rfl (fun w' hS hV K hK => ?_) ?_
          · have e0 : x 0 = (.pointer (some ⟨w.heap.size, 0, none⟩)) := hV 0 (by decide)
            obtain ⟨q0, q1⟩ := hS.1.two
            go_simp
            exact hK.out _ _ _ rfl rfl rfl (Below.refl _ _)
          simp only [zD, zE, zF]
          refine obs_step (Eq.trans (by simp only [zA, zB, zC]; exact rfl) rfl) rfl (fun w' hS hV K hK => ?_) ?_
          · obtain ⟨q0, q1⟩ := hS.1.two
            go_simp
            exact hK.out _ _ _ rfl rfl rfl (Below.refl _ _)
          simp only [zD, zE, zF]
          refine obs_step (Eq.trans (by simp only [zA, zB, zC]; exact rfl) rfl) rfl (fun w' hS hV K hK => ?_) ?_
          · obtain ⟨q0, q1⟩ := hS.1.two
            go_simp
            exact hK.out _ _ _ rfl rfl rfl (Below.refl _ _)
          simp only [zD, zE, zF]
          refine obs_step (Eq.trans (by simp only [zA, zB, zC]; exact rfl) rfl) rfl (fun w' hS hV K hK => ?_) ?_
          · have e2 : x 2 = (.agg #[.int .i64 P, .slice A n c]) := hV 2 (by decide)
            have e3 : x 3 = (.slice Ad n cd) := hV 3 (by decide)
            obtain ⟨q0, q1⟩ := hS.1.two
            go_simp
            refine (HRF.out w' hS.2).mono ?_
            rintro e v1 ⟨A9, c9, rfl, hM⟩
            exact hK.out _ _ _ rfl rfl ⟨_, _, rfl, hM.after hS.2⟩ hM.b
          simp only [zD, zE, zF]
          refine obs_step (Eq.trans (by simp only [zA, zB, zC]; exact rfl) rfl) rfl (fun w' hS hV K hK => ?_) ?_
          · obtain ⟨q0, q1⟩ := hS.1.two
            go_simp
            exact hK.out _ _ _ rfl rfl rfl (Below.refl _ _)
          simp only [zD, zE, zF]
          refine obs_step (Eq.trans (by simp only [zA, zB, zC]; exact rfl) rfl) rfl (fun w' hS hV K hK => ?_) ?_
          · have e1 : x 1 = (.int .i64 (P)) := hV 1 (by decide)
            obtain ⟨A4, c4, e4, h4⟩ := hV 4 (by decide)
            have e5 : x 5 = (.slice Am n cm) := hV 5 (by decide)
            obtain ⟨q0, q1⟩ := hS.1.two
            go_simp
            refine (HTI.out w' _ _ hS.2 h4.rd).mono ?_
            rintro e v1 ⟨A9, c9, rfl, hM⟩
            exact hK.out _ _ _ rfl rfl ⟨_, _, rfl, hM.after hS.2⟩ hM.b
          simp only [zD, zE, zF]
          refine fun w' hS hV => ?_
          have e0 : x 0 = (.pointer (some ⟨w.heap.size, 0, none⟩)) := hV 0 (by decide)
          have e1 : x 1 = (.int .i64 (P)) := hV 1 (by decide)
          have e2 : x 2 = (.agg #[.int .i64 P, .slice A n c]) := hV 2 (by decide)
          have e3 : x 3 = (.slice Ad n cd) := hV 3 (by decide)
          obtain ⟨A4, c4, e4, h4⟩ := hV 4 (by decide)
          have e5 : x 5 = (.slice Am n cm) := hV 5 (by decide)
          obtain ⟨A6, c6, e6, h6⟩ := hV 6 (by decide)
          simp only [e0, e1, e2, e3, e4, e5, e6]
          clear e0 e1 e2 e3 e4 e5 e6
          refine any_one (j := 7) (by kernel_rfl) (Eq.trans (by simp only [zA, zB, zC]; exact rfl) rfl) (fun K hK => ?_)
          go_simp
          refine hK.out _ _ (wpAny_done (by kernel_rfl) ?_ _)
          have hbq := hS.2
          have k8 := hS.1
          obtain ⟨wn, rfl⟩ : ∃ W, W = w' := ⟨_, rfl⟩
          have hO8 := hO7.below hbq
          have hK8 := KM.new h6 hO7 hB7
          clear hS HRF HTI k9 q0 q1
          go_wp2
          go_roundw
          case rel => exact ⟨k + 1, A6, c6, A20, c20, by omega, by go_num, rfl, by rw [HTT.out]; simp, by rw [HTT.out]; simpa using hO8, by rw [HTT.out]; simpa using hK8, k8⟩
          case measure => simp [intOf]; omega
    · obtain rfl : k = n := by omega
      rw [HTN.out] at hO ⊢
      go_wp2
      go_ret
      exact ⟨_, _, rfl, hO⟩
end Go.Proofs.YtdbibmilicjllaaGreat
namespace Go.Proofs.YtdbibmilicjllaaGreat
open Go.RowKit
theorem zeroL_at (xs : List Int) : zeroL xs = true ↔ ∀ i, i < xs.length → xs.getD i 0 = 0 := by
  rw [zeroL_iff]
  refine ⟨fun h i hi => h _ (getD_mem 0 hi), fun h y hy => ?_⟩
  obtain ⟨i, hi, rfl⟩ := List.getElem_of_mem hy
  rw [← getD_of_lt 0 hi]; exact h i hi
theorem dec_zero {p : Int} {W E : List Int} (hw : W.length = E.length) (hW : NumsL p W) (hE : NumsL p E) (hp : 0 < p) : zeroL (plusL p W E (-1)) = decide (W = E) := by
  by_cases h : W = E
  · subst h
    rw [decide_eq_true rfl]
    refine (zeroL_at _).2 fun i hi => ?_
    rw [plusL_len] at hi
    rw [plusL_getD _ _ hi, show W.getD i 0 + -1 * W.getD i 0 = 0 by omega, Int.zero_emod]
  · rw [decide_eq_false h]
    cases hz : zeroL (plusL p W E (-1))
    · rfl
    · refine absurd (list_ext_getD 0 hw fun i hi => ?_) h
      have h1 := (zeroL_at _).1 hz i (by rw [plusL_len]; exact hi)
      rw [plusL_getD _ _ hi] at h1
      refine cg_eq (hW.getD hp i) (hE.getD hp i) ?_
      obtain ⟨t, ht⟩ := cg_wit.1 (h1.trans (Int.zero_emod p).symm)
      exact cg_wit.2 ⟨t, by omega⟩
set_option maxHeartbeats 12800000 in
set_option maxRecDepth 8000 in
theorem decomposition_any (P : Int) (A : Option Addr) (n c : Nat) (sq : List Int) (D : Option Addr) (d : Nat) (M : List (List Int)) (w : World) (hsp : isSp P sq = true) (hreg : regB sq = true) (ha : Rd w A n (ints sq)) (hd : RdII w D n M) (hiso : isoB P sq M = true) :
    Calls Tryz.prog 153 #[.agg #[.int .i64 P, .slice A n c], .slice D n d] w fun e w' => ∃ (A' : Option Addr) (c' : Nat), e = .returned (.slice A' (decL P sq M).length c') ∧ MkO w w' A' (decL P sq M).length c' (decL P sq M) := by
  have hsl := ha.lenI
  obtain ⟨HP, hd1, hd2, hnum⟩ := isSp_dim hsp
  obtain ⟨hp3, hp2⟩ := isP_ge HP
  have hs := nums_numsL hnum
  obtain ⟨hl, hT⟩ := isoB_frame hiso
  have HDEC := Lib.hid (isoB_dec HP (show 2 ≤ P by omega) hd1 hs hreg hT hl hiso)
  obtain ⟨t, ht⟩ : ∃ t : Nat → List (List Int) × List (List Int), t = decTo P sq sq.length M := ⟨_, rfl⟩
  have HSTEP : Hid (∀ k, t (k + 1) = decS P sq n (t k) k) := Lib.hid fun k => by rw [ht, ← hsl]; rfl
  have HT0 : Hid (t 0 = ([], M)) := Lib.hid (by rw [ht]; rfl)
  have HTN : Hid ((t n).1 = decL P sq M) := Lib.hid (by rw [ht, ← hsl]; rfl)
  have HALL : Hid (∀ k, k ≤ n → (t k).1.length ≤ 2 * k ∧ (∀ v ∈ (t k).1, v.length = n ∧ NumsL P v ∧ ¬ pairL P sq v v = 0) ∧ Tab P n (t k).2 ∧ (t k).2.length = n) := Lib.hid fun k hk => by
    obtain ⟨h1, h2, x, hx, -⟩ := HDEC.out k (by omega)
    rw [ht]
    refine ⟨h1, fun v hv => ?_, ?_, ?_⟩
    · obtain ⟨g1, g2, g3⟩ := h2 v hv
      exact ⟨by omega, g2, fun e => g3 ((bil_same HP g1).1 e)⟩
    · rw [hx, ← hsl]; exact x.tab
    · rw [hx, x.len, hsl]
  rw [hsl] at hd1 hd2
  have HQ := Lib.hid hs
  have HPP := Lib.hid HP
  have HA := Lib.hid ha
  have HD := Lib.hid hd
  clear HDEC hsp hreg hiso hl hT hs hnum HP ha hd
  have k0 : Blk (w.alloc (.cells #[.int .i64 P, .slice A n c] 26)) w.heap.size 26 #[.int .i64 P, .slice A n c] := Blk.new _ _ _
  have k1 := k0.alloc (.cells #[] 24)
  have hO1 : MkO w ((w.alloc (.cells #[.int .i64 P, .slice A n c] 26)).alloc (.cells #[] 24)) (some ⟨w.heap.size + 1, 0, none⟩) 0 0 [] := by
    have := (MkII.empty (w0 := w) (w := (w.alloc (.cells #[.int .i64 P, .slice A n c] 26))) ((Below.refl _ _).alloc (Nat.le_refl _) _)).o
    simpa using this
  clear k0
  obtain ⟨q0, q1⟩ := k1.two
  go_enter Tryz.func153, Tryz.ntmps153
  go_wp2_with fail
  obtain ⟨w1, hw1⟩ : ∃ W, W = (w.alloc (.cells #[.int .i64 P, .slice A n c] 26)).alloc (.cells #[] 24) := ⟨_, rfl⟩
  rw [← hw1] at hO1 k1 q0 q1 ⊢
  clear hw1
  refine (dim_any P A n c w1).mono ?_
  rintro e w2 ⟨rfl, hb2⟩
  have hO2 := hO1.below hb2
  have k2 := k1.below hb2 k1.lt
  go_wp2_with fail
  refine (unit_any n w2 (by omega)).mono ?_
  rintro e w3 ⟨U, cu, rfl, hU⟩
  have hO3 := hO2.below hU.b
  have k3 := k2.below hU.b k2.lt
  have hLU : ∀ g, (Value.slice (some ⟨w.heap.size + 1, 0, none⟩) 0 0).ownBlock = some g → (Value.slice U n cu).ownBlock ≠ some g := fun g e e2 => by
    have h1 := (hO2.own_lt e).2
    obtain ⟨rows, hm, _⟩ := hU
    have h2 := (World.ownsRow.lt hm.2 g e2).1
    omega
  have hU3 : KU w w3 (.slice (some ⟨w.heap.size + 1, 0, none⟩) 0 0) U n cu (unitM n) := ⟨hU.after hO2.b, hLU⟩
  clear hO1 hO2 k1 k2 hb2 q0 q1 hU hLU
  go_wp2
  go_loopw [1, 5, 16] (fun mv lv iv wr => ∃ (k : Nat) (Am : Option Addr) (cm : Nat) (Al : Option Addr) (cl : Nat), k ≤ n ∧ iv = .int .i64 k ∧ mv = .slice Am n cm ∧ lv = .slice Al (t k).1.length cl ∧ MkO w wr Al (t k).1.length cl (t k).1 ∧ KM w wr (.slice Al (t k).1.length cl) Am n cm (t k).2 ∧ Blk wr w.heap.size 26 #[.int .i64 P, .slice A n c] ∧ KU w wr (.slice Al (t k).1.length cl) U n cu (unitM n)) (fun _ _ iv _ => n - (intOf iv).toNat)
  case atStart => exact ⟨0, D, d, _, _, by omega, rfl, rfl, by rw [HT0.out]; rfl, by rw [HT0.out]; exact hO3, by rw [HT0.out]; exact .inl HD.out, k3, by rw [HT0.out]; exact hU3⟩
  case round =>
    obtain ⟨k, Am, cm, Al, cl, hk, rfl, rfl, rfl, hO, hKM, k4, hKU⟩ := hrel
    clear hO3 k3 hU3
    obtain ⟨q0, q1⟩ := k4.two
    by_cases hlt : k < n
    · skip
      obtain ⟨hlen, hgood, hTM, hML⟩ := HALL.out k hk
      obtain ⟨L, hLe⟩ : ∃ L, L = (t k).1 := ⟨_, rfl⟩
      obtain ⟨MM, hMe⟩ : ∃ X, X = (t k).2 := ⟨_, rfl⟩
      have HS1 := Lib.hid (HSTEP.out k)
      have HN1 := Lib.hid (HALL.out (k + 1) (by omega))
      rw [← hLe] at hlen hgood hO hKM hKU ⊢
      rw [← hMe] at hTM hML hKM
      have HTK : Hid (t k = (L, MM)) := Lib.hid (by rw [hLe, hMe])
      have HLN := Lib.hid hlen
      clear hLe hMe hgood
      have hrm := hKM.rd hO.b
      have HTM := Lib.hid hTM
      have HML := Lib.hid hML
      obtain ⟨W, hW⟩ : ∃ W, W = decW n MM k := ⟨_, rfl⟩
      have hWok : W.length = n ∧ NumsL P W := by
        rw [hW]
        obtain ⟨x1, x2⟩ := trans_ok (show 0 < P by omega) hTM hML hd1
        exact x1.row (by omega)
      obtain ⟨E, hE⟩ : ∃ E, E = unitRow n k := ⟨_, rfl⟩
      have hEok : E.length = n ∧ NumsL P E := by rw [hE]; exact ⟨unitRow_len _ _, unitRow_nums (by omega) _ _⟩
      have HWK := Lib.hid hWok
      have HEK := Lib.hid hEok
      have HWE := Lib.hid hW
      have HEE := Lib.hid hE
      have HSTP : Hid (t (k + 1) = if W = E then (L, MM) else if pairL P sq (plusL P W E (-1)) (plusL P W E (-1)) = 0 then (L ++ [plusL P W E 1, E], timesM P (rmatL P sq n E) (timesM P (rmatL P sq n (plusL P W E 1)) MM)) else (L ++ [plusL P W E (-1)], timesM P (rmatL P sq n (plusL P W E (-1))) MM)) := Lib.hid (by
        rw [HS1.out, HTK.out]
        unfold decS
        rw [← hW, ← hE])
      clear hTM hWok hEok hW hE HS1
      obtain ⟨gu, rfl, hxu, Ae, ce, hcu, -, hru⟩ := hKU.1.at_ hlt
      have eE : (unitM n)[k] = E := by rw [HEE.out]; exact unitM_get n k hxu
      rw [eE, HEK.out.1] at hcu hru
      have hcu2 : wr.cell? ⟨gu, 0 + k, none⟩ = some (.slice Ae n ce) := by rw [Nat.zero_add]; exact hcu
      have HRE0 := Lib.hid (hru.base (B' := 0) (Nat.zero_le _))
      have hcall := transpose_any P Am n cm MM n wr hd1 (by omega) (by omega) hrm HTM.out
      have HO := Lib.hid hO
      have HKM := Lib.hid hKM
      have HKU := Lib.hid hKU
      clear hO hKM hrm hKU eE hxu hru
      go_wp2_with fail
      refine hcall.mono ?_
      rintro e w5 ⟨A5, c5, rfl, hM5⟩
      have hb5 := hM5.b
      obtain ⟨g5, o5, rfl, hx5, Aw, cw, hcw, hrw, -⟩ := hM5.rd.at_ hlt
      have eW : (transL MM)[k] = W := by rw [HWE.out]; unfold decW; rw [getD_of_lt [] hx5]
      rw [eW, HWK.out.1] at hcw
      rw [eW, HWK.out.1] at hrw
      have k5 := k4.below hb5 k4.lt
      have he5 := HRE0.out.below hb5
      clear hcall hM5 eW hx5 q0 q1
      obtain ⟨q0, q1⟩ := k5.two
      go_wp2_with fail
      refine (field_any P A n c w5).mono ?_
      rintro e w6 ⟨rfl, hb6⟩
      have hcall := plus_any P Aw n cw Ae n ce (-1) W E w6 (by omega) hp2 (by omega) (Nat.le_refl _) (hrw.below hb6) HWK.out.2 (he5.below hb6).rd HEK.out.2 (by omega) (by omega)
      have hb7 := hb5.trans (hb6.mono hb5.size)
      have hw7 := hrw.below hb6
      have k6 := k5.below hb6 k5.lt
      obtain ⟨dl, hdl⟩ : ∃ x, x = plusL P W E (-1) := ⟨_, rfl⟩
      have hdok : dl.length = n ∧ NumsL P dl := by rw [hdl]; exact ⟨(plusL_len _ _ _ _).trans HWK.out.1, plusL_nums (by omega) _ _ _⟩
      have HZE := Lib.hid (show zeroL dl = decide (W = E) by rw [hdl]; exact dec_zero (HWK.out.1.trans HEK.out.1.symm) HWK.out.2 HEK.out.2 (by omega))
      have HDK := Lib.hid hdok
      have HSD : Hid (t (k + 1) = if W = E then (L, MM) else if pairL P sq dl dl = 0 then (L ++ [plusL P W E 1, E], timesM P (rmatL P sq n E) (timesM P (rmatL P sq n (plusL P W E 1)) MM)) else (L ++ [dl], timesM P (rmatL P sq n dl) MM)) := Lib.hid (by rw [HSTP.out, hdl])
      rw [← hdl] at hcall
      clear HSTP hdl hdok hcw q0 q1 k5 hrw
      go_wp2_with fail
      refine hcall.mono ?_
      rintro e w8 ⟨Ad, cd, rfl, hM8⟩
      have hB8 := hb7.trans (hM8.b.mono hb7.size)
      have HD8 := Lib.hid (show Own w8 0 2 Ad n cd (ints dl) from hM8.2.base (Nat.zero_le _))
      have HW8 := Lib.hid (hw7.below hM8.b)
      have k8 := k6.below hM8.b k6.lt
      clear hcall hM8 hw7 he5 k6 hb5 hb6 hb7
      have hcall := isZero_any Ad n cd dl w8 (by omega) HD8.out.rd
      by_cases h1 : W = E
      · rw [HZE.out, decide_eq_true h1] at hcall
        have HTT : Hid (t (k + 1) = (L, MM)) := Lib.hid (by rw [HSD.out, if_pos h1])
        clear HSD HN1 h1
        go_wp2_with fail
        refine hcall.mono ?_
        rintro e w9 ⟨rfl, rfl⟩
        have hO8 := HO.out.below hB8
        have hK8 := HKM.out.below hB8
        have hU8 := HKU.out.below hB8
        go_wp2
        go_roundw
        case rel => exact ⟨k + 1, Am, cm, Al, cl, by omega, by go_num, rfl, by rw [HTT.out], by rw [HTT.out]; exact hO8, by rw [HTT.out]; exact hK8, k8, by rw [HTT.out]; exact hU8⟩
        case measure => simp [intOf]; omega
      · rw [HZE.out, decide_eq_false h1] at hcall
        have HS2 : Hid (t (k + 1) = if pairL P sq dl dl = 0 then (L ++ [plusL P W E 1, E], timesM P (rmatL P sq n E) (timesM P (rmatL P sq n (plusL P W E 1)) MM)) else (L ++ [dl], timesM P (rmatL P sq n dl) MM)) := Lib.hid (by rw [HSD.out, if_neg h1])
        clear HSD h1
        go_wp2_with fail
        refine hcall.mono ?_
        rintro e w9 ⟨rfl, rfl⟩
        clear hcall
        have hO7 := HO.out.below hB8
        have hKM7 := HKM.out.below hB8
        have hKU7 := HKU.out.below hB8
        have he8 := HRE0.out.below hB8
        obtain ⟨q0, q1⟩ := k8.two
        have hcall := norm_any P A n c sq Ad cd dl w8 (by omega) hp2 hd2 (HA.out.below hO7.b) HQ.out HD8.out.rd HDK.out.2
        obtain ⟨z, hz⟩ : ∃ z, z = pairL P sq dl dl := ⟨_, rfl⟩
        rw [← hz] at hcall HS2
        by_cases hz0 : z = 0
        · have e8 : (z != 0) = false := by simp [hz0]
          rw [if_pos hz0] at HS2
          clear hz hz0
          go_wp2_with fail
          refine hcall.mono ?_
          rintro e w9 ⟨rfl, hb9⟩
          have hw9 := HW8.out.below hb9
          have he9 := he8.below hb9
          have k9 := k8.below hb9 k8.lt
          clear hcall q0 q1 HD8 HDK
          obtain ⟨q0, q1⟩ := k9.two
          go_wp2_with fail
          refine (field_any P A n c w9).mono ?_
          rintro e w10 ⟨rfl, hb10⟩
          have hb11 := hb9.trans (hb10.mono hb9.size)
          obtain ⟨dl2, hdl⟩ : ∃ x, x = plusL P W E 1 := ⟨_, rfl⟩
          have hcall := plus_any P Aw n cw Ae n ce 1 W E w10 (by omega) hp2 (by omega) (Nat.le_refl _) (hw9.below hb10) HWK.out.2 (he9.below hb10).rd HEK.out.2 (by omega) (by omega)
          have hdok : dl2.length = n ∧ NumsL P dl2 := by rw [hdl]; exact ⟨(plusL_len _ _ _ _).trans HWK.out.1, plusL_nums (by omega) _ _ _⟩
          rw [← hdl] at HS2 hcall
          have HDK := Lib.hid hdok
          have hNN := HN1.out
          rw [HS2.out] at hNN
          have HNE := Lib.hid (show (¬ pairL P sq dl2 dl2 = 0) ∧ ¬ pairL P sq E E = 0 from ⟨(hNN.2.1 dl2 (by simp)).2.2, (hNN.2.1 E (by simp)).2.2⟩)
          clear hdl hdok hNN HN1
          go_wp2_with fail
          refine hcall.mono ?_
          rintro e w11 ⟨Ad, cd, rfl, hM11⟩
          have hb12 := hb11.trans (hM11.b.mono hb11.size)
          have HD10 := Lib.hid (show Own w11 0 2 Ad n cd (ints dl2) from hM11.2.base (Nat.zero_le _))
          have HO7 := Lib.hid (hO7.below hb12)
          have HKM7 := Lib.hid (hKM7.below hb12)
          have HKU7 := Lib.hid (hKU7.below hb12)
          have k10 := k8.below hb12 k8.lt
          have HE10 := Lib.hid (he8.below hb12)
          have HLB := Lib.hid (show L.length ≤ 1099511627700 by have := HLN.out; omega)
          clear hcall q0 q1 k8 k9 hM11 hO7 hKM7 hKU7 he8 he9 hw9 hb9 hb10 hb11 hb12 HW8
          obtain ⟨q0, q1⟩ := k10.two
          go_wp2_with (at_builtin; (refine wpList_appTwoO w w11 rfl _ _ rfl Al L.length cl L Ad n cd dl2 Ae n ce E HO7.out HD10.out HE10.out HLB.out rfl ?_ ?_; (go_simp); intro A20 c20 wq hO20 hg20 hat20))
          have hB7 := hO20.b
          have hKM20 := HKM7.out.app (m' := L.length + 2) (d' := c20) HO7.out hg20 hB7 (Nat.le_refl _) hat20
          have hKU20 := KU.app (m' := L.length + 2) (d' := c20) HKU7.out HO7.out hg20 hB7 (Nat.le_refl _) hat20
          have hd20 := HO7.out.keepO HD10.out hg20
          have he20 := HO7.out.keepO HE10.out hg20
          have k9 := k10.grown hg20 (HO7.out.ne_blk k10 (by decide))
          have HRM := Lib.hid (hKM20.rd hB7)
          have HRF := Lib.hid fun (w' : World) (h : Below wq.heap.size wq w') => reflection_any P A n c sq Ad cd dl2 w' HPP.out hd2 hd1 ((HA.out.below hB7).below h) HQ.out (hd20.below h).rd HDK.out.2 HNE.out.1
          have HRE := Lib.hid fun (w' : World) (h : Below wq.heap.size wq w') => reflection_any P A n c sq Ae ce E w' HPP.out hd2 hd1 ((HA.out.below hB7).below h) HQ.out (he20.below h).rd HEK.out.2 HNE.out.2
          have HTI := Lib.hid fun (w' : World) (B : Option Addr) (d' : Nat) (h : Below wq.heap.size wq w') (hb : RdII w' B n (rmatL P sq n dl2)) => timesM_any P B n d' (rmatL P sq n dl2) Am cm MM w' (by omega) hp2 hd1 (by omega) hb (rmatL_tab (by omega) sq n dl2) (HRM.out.below h) HTM.out
          have HT2 := Lib.hid fun (w' : World) (B : Option Addr) (d' : Nat) (C : Option Addr) (f : Nat) (hb : RdII w' B n (rmatL P sq n E)) (hc : RdII w' C n (timesM P (rmatL P sq n dl2) MM)) => timesM_any P B n d' (rmatL P sq n E) C f (timesM P (rmatL P sq n dl2) MM) w' (by omega) hp2 hd1 (by omega) hb (rmatL_tab (by omega) sq n E) hc (timesM_tab (by omega) hd1 HTM.out HML.out)
          have HTT := HS2
          have hO7 := hO20
          have HKU9 := Lib.hid hKU20
          clear HS2 hO20 hg20 hat20 hKM20 hKU20 hd20 he20 HO7 HKM7 HKU7 HD10 HE10 k10 q0 q1
          obtain ⟨q0, q1⟩ := k9.two
          go_wp2
          refine wp_obs 13 [[], [0], [], [], [2, 3], [], [5], [], [], [7, 8], [], [5, 6, 7, 8, 9, 10], [0, 1, 2, 3, 4, 5, 6, 7, 8, 9, 10, 11], [0, 1, 2, 3, 4, 5, 6, 7, 8, 9, 10, 11, 12]] [VIs (.agg #[.int .i64 P, .slice A n c]), VIs (.int .i64 (P)), VIs (.agg #[.int .i64 P, .slice A n c]), VIs (.slice Ae n ce), VMat wq n (rmatL P sq n E), VIs (.agg #[.int .i64 P, .slice A n c]), VIs (.int .i64 (P)), VIs (.agg #[.int .i64 P, .slice A n c]), VIs (.slice Ad n cd), VMat wq n (rmatL P sq n dl2), VIs (.slice Am n cm), VMat wq n (timesM P (rmatL P sq n dl2) MM), VMat wq n (timesM P (rmatL P sq n E) (timesM P (rmatL P sq n dl2) MM))] (fun w' => Blk w' w.heap.size 26 #[.int .i64 P, .slice A n c] ∧ Below wq.heap.size wq w') (by kernel_rfl) (by kernel_rfl) (fun _ _ h hb => ⟨h.1.below hb h.1.lt, h.2.trans (hb.mono h.2.size)⟩) (⟨k9.drew, (Below.refl _ _).drew⟩) (fun x => ?_)
          refine obs_step (Eq.trans (by simp only [zA, zC]; exact rfl) rfl) rfl (fun w' hS hV K hK => ?_) ?_
          · obtain ⟨q0, q1⟩ := hS.1.two
            go_simp
            exact hK.out _ _ _ rfl rfl rfl (Below.refl _ _)
          simp only [zD, zE, zF]
          refine obs_step (Eq.trans (by simp only [zA, zB, zC]; exact rfl) rfl) rfl (fun w' hS hV K hK => ?_) ?_
          · have e0 : x 0 = (.agg #[.int .i64 P, .slice A n c]) := hV 0 (by decide)
            obtain ⟨q0, q1⟩ := hS.1.two
            go_simp
            refine (field_any P A n c w').mono ?_
            rintro e v1 ⟨rfl, hb⟩
            exact hK.out _ _ _ rfl rfl rfl hb
          simp only [zD, zE, zF]
          refine obs_step (Eq.trans (by simp only [zA, zB, zC]; exact rfl) rfl) rfl (fun w' hS hV K hK => ?_) ?_
          · obtain ⟨q0, q1⟩ := hS.1.two
            go_simp
            exact hK.out _ _ _ rfl rfl rfl (Below.refl _ _)
          simp only [zD, zE, zF]
          refine obs_step (Eq.trans (by simp only [zA, zB, zC]; exact rfl) rfl) rfl (fun w' hS hV K hK => ?_) ?_
          · obtain ⟨q0, q1⟩ := hS.1.two
            go_simp
            exact hK.out _ _ _ rfl rfl rfl (Below.refl _ _)
          simp only [zD, zE, zF]
          refine obs_step (Eq.trans (by simp only [zA, zB, zC]; exact rfl) rfl) rfl (fun w' hS hV K hK => ?_) ?_
          · have e2 : x 2 = (.agg #[.int .i64 P, .slice A n c]) := hV 2 (by decide)
            have e3 : x 3 = (.slice Ae n ce) := hV 3 (by decide)
            obtain ⟨q0, q1⟩ := hS.1.two
            go_simp
            refine (HRE.out w' hS.2).mono ?_
            rintro e v1 ⟨A9, c9, rfl, hM⟩
            exact hK.out _ _ _ rfl rfl ⟨_, _, rfl, hM.after hS.2⟩ hM.b
          simp only [zD, zE, zF]
          refine obs_step (Eq.trans (by simp only [zA, zB, zC]; exact rfl) rfl) rfl (fun w' hS hV K hK => ?_) ?_
          · obtain ⟨q0, q1⟩ := hS.1.two
            go_simp
            exact hK.out _ _ _ rfl rfl rfl (Below.refl _ _)
          simp only [zD, zE, zF]
          refine obs_step (Eq.trans (by simp only [zA, zB, zC]; exact rfl) rfl) rfl (fun w' hS hV K hK => ?_) ?_
          · have e5 : x 5 = (.agg #[.int .i64 P, .slice A n c]) := hV 5 (by decide)
            obtain ⟨q0, q1⟩ := hS.1.two
            go_simp
            refine (field_any P A n c w').mono ?_
            rintro e v1 ⟨rfl, hb⟩
            exact hK.out _ _ _ rfl rfl rfl hb
          simp only [zD, zE, zF]
          refine obs_step (Eq.trans (by simp only [zA, zB, zC]; exact rfl) rfl) rfl (fun w' hS hV K hK => ?_) ?_
          · obtain ⟨q0, q1⟩ := hS.1.two
            go_simp
            exact hK.out _ _ _ rfl rfl rfl (Below.refl _ _)
          simp only [zD, zE, zF]
          refine obs_step (Eq.trans (by simp only [zA, zB, zC]; exact rfl) rfl) rfl (fun w' hS hV K hK => ?_) ?_
          · obtain ⟨q0, q1⟩ := hS.1.two
            go_simp
            exact hK.out _ _ _ rfl rfl rfl (Below.refl _ _)
          simp only [zD, zE, zF]
          refine obs_step (Eq.trans (by simp only [zA, zB, zC]; exact rfl) rfl) rfl (fun w' hS hV K hK => ?_) ?_
          · have e7 : x 7 = (.agg #[.int .i64 P, .slice A n c]) := hV 7 (by decide)
            have e8 : x 8 = (.slice Ad n cd) := hV 8 (by decide)
            obtain ⟨q0, q1⟩ := hS.1.two
            go_simp
            refine (HRF.out w' hS.2).mono ?_
            rintro e v1 ⟨A9, c9, rfl, hM⟩
            exact hK.out _ _ _ rfl rfl ⟨_, _, rfl, hM.after hS.2⟩ hM.b
          simp only [zD, zE, zF]
          refine obs_step (Eq.trans (by simp only [zA, zB, zC]; exact rfl) rfl) rfl (fun w' hS hV K hK => ?_) ?_
          · obtain ⟨q0, q1⟩ := hS.1.two
            go_simp
            exact hK.out _ _ _ rfl rfl rfl (Below.refl _ _)
          simp only [zD, zE, zF]
          refine obs_step (Eq.trans (by simp only [zA, zB, zC]; exact rfl) rfl) rfl (fun w' hS hV K hK => ?_) ?_
          · have e6 : x 6 = (.int .i64 (P)) := hV 6 (by decide)
            obtain ⟨A9, c9, e9, h9⟩ := hV 9 (by decide)
            have e10 : x 10 = (.slice Am n cm) := hV 10 (by decide)
            obtain ⟨q0, q1⟩ := hS.1.two
            go_simp
            refine (HTI.out w' _ _ hS.2 h9.rd).mono ?_
            rintro e v1 ⟨A9, c9, rfl, hM⟩
            exact hK.out _ _ _ rfl rfl ⟨_, _, rfl, hM.after hS.2⟩ hM.b
          simp only [zD, zE, zF]
          refine obs_step (Eq.trans (by simp only [zA, zB, zC]; exact rfl) rfl) rfl (fun w' hS hV K hK => ?_) ?_
          · have e1 : x 1 = (.int .i64 (P)) := hV 1 (by decide)
            obtain ⟨A4, c4, e4, h4⟩ := hV 4 (by decide)
            obtain ⟨A9, c9, e9, h9⟩ := hV 9 (by decide)
            obtain ⟨A11, c11, e11, h11⟩ := hV 11 (by decide)
            obtain ⟨q0, q1⟩ := hS.1.two
            go_simp
            refine (HT2.out w' _ _ _ _ h4.rd h11.rd).mono ?_
            rintro e v1 ⟨A9, c9, rfl, hM⟩
            exact hK.out _ _ _ rfl rfl ⟨_, _, rfl, hM.after hS.2⟩ hM.b
          simp only [zD, zE, zF]
          refine fun w' hS hV => ?_
          have e0 : x 0 = (.agg #[.int .i64 P, .slice A n c]) := hV 0 (by decide)
          have e1 : x 1 = (.int .i64 (P)) := hV 1 (by decide)
          have e2 : x 2 = (.agg #[.int .i64 P, .slice A n c]) := hV 2 (by decide)
          have e3 : x 3 = (.slice Ae n ce) := hV 3 (by decide)
          obtain ⟨A4, c4, e4, h4⟩ := hV 4 (by decide)
          have e5 : x 5 = (.agg #[.int .i64 P, .slice A n c]) := hV 5 (by decide)
          have e6 : x 6 = (.int .i64 (P)) := hV 6 (by decide)
          have e7 : x 7 = (.agg #[.int .i64 P, .slice A n c]) := hV 7 (by decide)
          have e8 : x 8 = (.slice Ad n cd) := hV 8 (by decide)
          obtain ⟨A9, c9, e9, h9⟩ := hV 9 (by decide)
          have e10 : x 10 = (.slice Am n cm) := hV 10 (by decide)
          obtain ⟨A11, c11, e11, h11⟩ := hV 11 (by decide)
          obtain ⟨A12, c12, e12, h12⟩ := hV 12 (by decide)
          simp only [e0, e1, e2, e3, e4, e5, e6, e7, e8, e9, e10, e11, e12]
          clear e0 e1 e2 e3 e4 e5 e6 e7 e8 e9 e10 e11 e12
          refine any_one (j := 13) (by kernel_rfl) (Eq.trans (by simp only [zA, zB, zC]; exact rfl) rfl) (fun K hK => ?_)
          go_simp
          refine hK.out _ _ (wpAny_done (by kernel_rfl) ?_ _)
          have hbq := hS.2
          have k8 := hS.1
          obtain ⟨wn, rfl⟩ : ∃ W, W = w' := ⟨_, rfl⟩
          have hO8 := hO7.below hbq
          have hU8 := HKU9.out.below hbq
          have hK8 := KM.new h12 hO7 hB7
          clear hS HRF HRE HTI HT2 k9 q0 q1
          go_wp2
          go_roundw
          case rel => exact ⟨k + 1, A12, c12, A20, c20, by omega, by go_num, rfl, by rw [HTT.out]; simp, by rw [HTT.out]; simpa using hO8, by rw [HTT.out]; simpa using hK8, k8, by rw [HTT.out]; simpa using hU8⟩
          case measure => simp [intOf]; omega
        · have e8 : (z != 0) = true := by simp [hz0]
          rw [if_neg hz0] at HS2
          have HNE := Lib.hid (show ¬ pairL P sq dl dl = 0 by rw [← hz]; exact hz0)
          clear hz hz0 HN1
          go_wp2_with fail
          refine hcall.mono ?_
          rintro e w9 ⟨rfl, hb9⟩
          have HO7 := Lib.hid (hO7.below hb9)
          have HKM7 := Lib.hid (hKM7.below hb9)
          have HKU7 := Lib.hid (hKU7.below hb9)
          have HD10 := Lib.hid (HD8.out.below hb9)
          have k10 := k8.below hb9 k8.lt
          have HLB := Lib.hid (show L.length ≤ 1099511627776 by have := HLN.out; omega)
          clear hcall q0 q1 k8 hb9 hO7 hKM7 hKU7 HD8 he8 HW8
          obtain ⟨q0, q1⟩ := k10.two
          go_wp2_with (at_builtin; (refine wpList_appRowO w w9 rfl _ _ rfl Al L.length cl L Ad n cd dl HO7.out HD10.out HLB.out rfl ?_ ?_; (go_simp); intro A20 c20 wq hO20 hg20 hat20))
          have hB7 := hO20.b
          have hKM20 := HKM7.out.app (m' := L.length + 1) (d' := c20) HO7.out hg20 hB7 (Nat.le_refl _) hat20
          have hKU20 := KU.app (m' := L.length + 1) (d' := c20) HKU7.out HO7.out hg20 hB7 (Nat.le_refl _) hat20
          have hd20 := HO7.out.keepO HD10.out hg20
          have k9 := k10.grown hg20 (HO7.out.ne_blk k10 (by decide))
          have HRM := Lib.hid (hKM20.rd hB7)
          have HRF := Lib.hid fun (w' : World) (h : Below wq.heap.size wq w') => reflection_any P A n c sq Ad cd dl w' HPP.out hd2 hd1 ((HA.out.below hB7).below h) HQ.out (hd20.below h).rd HDK.out.2 HNE.out
          have HTI := Lib.hid fun (w' : World) (B : Option Addr) (d' : Nat) (h : Below wq.heap.size wq w') (hb : RdII w' B n (rmatL P sq n dl)) => timesM_any P B n d' (rmatL P sq n dl) Am cm MM w' (by omega) hp2 hd1 (by omega) hb (rmatL_tab (by omega) sq n dl) (HRM.out.below h) HTM.out
          have HTT := HS2
          have hO7 := hO20
          have HKU9 := Lib.hid hKU20
          clear HS2 hO20 hg20 hat20 hKM20 hKU20 hd20 HO7 HKM7 HKU7 HD10 k10 q0 q1
          obtain ⟨q0, q1⟩ := k9.two
          go_wp2
          refine wp_obs 7 [[], [0], [], [], [2, 3], [], [0, 1, 2, 3, 4, 5], [0, 1, 2, 3, 4, 5, 6]] [VIs (.agg #[.int .i64 P, .slice A n c]), VIs (.int .i64 (P)), VIs (.agg #[.int .i64 P, .slice A n c]), VIs (.slice Ad n cd), VMat wq n (rmatL P sq n dl), VIs (.slice Am n cm), VMat wq n (timesM P (rmatL P sq n dl) MM)] (fun w' => Blk w' w.heap.size 26 #[.int .i64 P, .slice A n c] ∧ Below wq.heap.size wq w') (by kernel_rfl) (by kernel_rfl) (fun _ _ h hb => ⟨h.1.below hb h.1.lt, h.2.trans (hb.mono h.2.size)⟩) (⟨k9.drew, (Below.refl _ _).drew⟩) (fun x => ?_)
          refine obs_step (Eq.trans (by simp only [zA, zC]; exact rfl) rfl) rfl (fun w' hS hV K hK => ?_) ?_
          · obtain ⟨q0, q1⟩ := hS.1.two
            go_simp
            exact hK.out _ _ _ rfl rfl rfl (Below.refl _ _)
          simp only [zD, zE, zF]
          refine obs_step (Eq.trans (by simp only [zA, zB, zC]; exact rfl) rfl) rfl (fun w' hS hV K hK => ?_) ?_
          · have e0 : x 0 = (.agg #[.int .i64 P, .slice A n c]) := hV 0 (by decide)
            obtain ⟨q0, q1⟩ := hS.1.two
            go_simp
            refine (field_any P A n c w').mono ?_
            rintro e v1 ⟨rfl, hb⟩
            exact hK.out _ _ _ rfl rfl rfl hb
          simp only [zD, zE, zF]
          refine obs_step (Eq.trans (by simp only [zA, zB, zC]; exact rfl) rfl) rfl (fun w' hS hV K hK => ?_) ?_
          · obtain ⟨q0, q1⟩ := hS.1.two
            go_simp
            exact hK.out _ _ _ rfl rfl rfl (Below.refl _ _)
          simp only [zD, zE, zF]
          refine obs_step (Eq.trans (by simp only [zA, zB, zC]; exact rfl) rfl) rfl (fun w' hS hV K hK => ?_) ?_
          · obtain ⟨q0, q1⟩ := hS.1.two
            go_simp
            exact hK.out _ _ _ rfl rfl rfl (Below.refl _ _)
          simp only [zD, zE, zF]
          refine obs_step (Eq.trans (by simp only [zA, zB, zC]; exact rfl) rfl) rfl (fun w' hS hV K hK => ?_) ?_
          · have e2 : x 2 = (.agg #[.int .i64 P, .slice A n c]) := hV 2 (by decide)
            have e3 : x 3 = (.slice Ad n cd) := hV 3 (by decide)
            obtain ⟨q0, q1⟩ := hS.1.two
            go_simp
            refine (HRF.out w' hS.2).mono ?_
            rintro e v1 ⟨A9, c9, rfl, hM⟩
            exact hK.out _ _ _ rfl rfl ⟨_, _, rfl, hM.after hS.2⟩ hM.b
          simp only [zD, zE, zF]
          refine obs_step (Eq.trans (by simp only [zA, zB, zC]; exact rfl) rfl) rfl (fun w' hS hV K hK => ?_) ?_
          · obtain ⟨q0, q1⟩ := hS.1.two
            go_simp
            exact hK.out _ _ _ rfl rfl rfl (Below.refl _ _)
          simp only [zD, zE, zF]
          refine obs_step (Eq.trans (by simp only [zA, zB, zC]; exact rfl) rfl) rfl (fun w' hS hV K hK => ?_) ?_
          · have e1 : x 1 = (.int .i64 (P)) := hV 1 (by decide)
            obtain ⟨A4, c4, e4, h4⟩ := hV 4 (by decide)
            have e5 : x 5 = (.slice Am n cm) := hV 5 (by decide)
            obtain ⟨q0, q1⟩ := hS.1.two
            go_simp
            refine (HTI.out w' _ _ hS.2 h4.rd).mono ?_
            rintro e v1 ⟨A9, c9, rfl, hM⟩
            exact hK.out _ _ _ rfl rfl ⟨_, _, rfl, hM.after hS.2⟩ hM.b
          simp only [zD, zE, zF]
          refine fun w' hS hV => ?_
          have e0 : x 0 = (.agg #[.int .i64 P, .slice A n c]) := hV 0 (by decide)
          have e1 : x 1 = (.int .i64 (P)) := hV 1 (by decide)
          have e2 : x 2 = (.agg #[.int .i64 P, .slice A n c]) := hV 2 (by decide)
          have e3 : x 3 = (.slice Ad n cd) := hV 3 (by decide)
          obtain ⟨A4, c4, e4, h4⟩ := hV 4 (by decide)
          have e5 : x 5 = (.slice Am n cm) := hV 5 (by decide)
          obtain ⟨A6, c6, e6, h6⟩ := hV 6 (by decide)
          simp only [e0, e1, e2, e3, e4, e5, e6]
          clear e0 e1 e2 e3 e4 e5 e6
          refine any_one (j := 7) (by kernel_rfl) (Eq.trans (by simp only [zA, zB, zC]; exact rfl) rfl) (fun K hK => ?_)
          go_simp
          refine hK.out _ _ (wpAny_done (by kernel_rfl) ?_ _)
          have hbq := hS.2
          have k8 := hS.1
          obtain ⟨wn, rfl⟩ : ∃ W, W = w' := ⟨_, rfl⟩
          have hO8 := hO7.below hbq
          have hU8 := HKU9.out.below hbq
          have hK8 := KM.new h6 hO7 hB7
          clear hS HRF HTI k9 q0 q1
          go_wp2
          go_roundw
          case rel => exact ⟨k + 1, A6, c6, A20, c20, by omega, by go_num, rfl, by rw [HTT.out]; simp, by rw [HTT.out]; simpa using hO8, by rw [HTT.out]; simpa using hK8, k8, by rw [HTT.out]; simpa using hU8⟩
          case measure => simp [intOf]; omega
    · obtain rfl : k = n := by omega
      rw [HTN.out] at hO ⊢
      go_wp2
      go_ret
      exact ⟨_, _, rfl, hO⟩
end Go.Proofs.YtdbibmilicjllaaGreat
namespace Go.Proofs.YtdbibmilicjllaaGreat
open Go.RowKit
set_option maxHeartbeats 1600000 in
set_option maxRecDepth 8000 in
theorem SpinorNormOf_ok (P : Int) (A : Option Addr) (n c : Nat) (sq : List Int) (X : Option Addr) (cx : Nat) (xs : List Int) (w : World) (hsp : isSp P sq = true) (hreg : regB sq = true) (ha : Rd w A n (ints sq)) (hx : Rd w X (pw n) (ints xs)) (hcx : pw n ≤ cx) (hv : NumsL P xs) :
    Calls Tryz.prog 32 #[.agg #[.int .i64 P, .slice A n c], .slice X (pw n) cx] w fun e w' => e = .returned (.tuple #[.int .i64 (nrmL P sq xs), .int .i64 0]) ∧ Below w.heap.size w w' := by
  have hB0 : Below w.heap.size w (w.alloc (.cells #[.int .i64 P, .slice A n c] 26)) := (Below.refl _ _).alloc (Nat.le_refl _) _
  have k0 : Blk (w.alloc (.cells #[.int .i64 P, .slice A n c] 26)) w.heap.size 26 #[.int .i64 P, .slice A n c] := Blk.new _ _ _
  have hsl := ha.lenI
  obtain ⟨HP, hd1, hd2, hnum⟩ := isSp_dim hsp
  obtain ⟨hp3, hp2⟩ := isP_ge HP
  rw [hsl] at hd1 hd2
  have hpw : pw n ≤ 64 := pw_le hd2
  have hB1 : Below w.heap.size w ((w.alloc (.cells #[.int .i64 P, .slice A n c] 26)).alloc (.cells #[.slice X (pw n) cx] 24)) := hB0.alloc (by simp) _
  have k1 : Blk ((w.alloc (.cells #[.int .i64 P, .slice A n c] 26)).alloc (.cells #[.slice X (pw n) cx] 24)) w.heap.size 26 #[.int .i64 P, .slice A n c] := k0.alloc _
  have hM : codeM P sq [xs] = 0 := by
    unfold codeM
    rw [hsp, if_pos rfl, if_neg]
    intro hh
    obtain ⟨ys, hy, e⟩ := List.any_eq_true.1 hh
    rw [List.mem_singleton.1 hy] at e
    have : isMu P sq xs = true := by
      unfold isMu nums
      rw [hx.lenI, hsl, Bool.and_eq_true]
      exact ⟨by simp, List.all_eq_true.2 fun x hx' => by have := hv x hx'; simp [inR]; omega⟩
    rw [this] at e
    cases e
  have hck := checkVersors_any P A (some ⟨w.heap.size + 1, 0, none⟩) none n c 1 1 0 0 sq [xs] [] ((w.alloc (.cells #[.int .i64 P, .slice A n c] 26)).alloc (.cells #[.slice X (pw n) cx] 24)) (by omega) (by omega) (by omega) (ha.below hB1) (rdII_one' (Blk.newAt3 (by simp)) (hx.below hB1) hcx) (all_one (by rw [hx.lenI]; omega)) ⟨[], Rd.nil _ _, rfl, fun k h => absurd h (by simp)⟩ (by simp)
  have hz : codeVs P sq [xs] [] = 0 := by
    unfold codeVs
    rw [if_pos hM, if_pos (codeV_mk hsp (by simp)), hreg]; rfl
  rw [hz] at hck
  have HN := Lib.hid (nums_numsL hnum)
  have HVN := Lib.hid hv
  obtain ⟨q0, q1⟩ := k1.two
  clear hsl hnum hv hsp k0 hB0 hM hz
  go_enter Tryz.func32, Tryz.ntmps32
  go_wp2_with fail
  refine hck.mono ?_
  rintro e w2 ⟨rfl, hb2⟩
  have hB2 := hB1.trans (hb2.mono hB1.size)
  have k2 := k1.below hb2 k1.lt
  clear q0 q1 hck
  obtain ⟨q0, q1⟩ := k2.two
  go_wp2_with fail
  refine (spinorNorm_any P A n c sq X cx xs w2 (by omega) hp2 hd2 (ha.below hB2) HN.out (hx.below hB2) HVN.out hcx).mono ?_
  rintro e w3 ⟨rfl, hb3⟩
  go_wp2
  go_ret2
  exact ⟨rfl, hB2.trans (hb3.mono hB2.size)⟩
end Go.Proofs.YtdbibmilicjllaaGreat
namespace Go.Proofs.YtdbibmilicjllaaGreat
open Go.RowKit
set_option maxHeartbeats 800000 in
set_option maxRecDepth 8000 in
theorem checkNumbers_ok (p : Int) (A : Option Addr) (n c : Nat) (xs : List Int) (w : World) (HP : isP p = true) (hn : n ≤ 1048576) (ha : Rd w A n (ints xs)) (h : nums p xs = true) :
    Calls Tryz.prog 168 #[.int .i64 p, .slice A n c] w fun e w' => e = .returned (.int .i64 0) ∧ w = w' := by
  obtain ⟨hp3, hp2⟩ := isP_ge HP
  have hip := IsPrime_b p w HP
  have his := is_b p A n c xs w (by omega) (by omega) (by omega) ha h
  clear h HP
  go_enter Tryz.func168, Tryz.ntmps168
  go_wp2_with fail
  refine hip.mono ?_
  rintro e w1 ⟨rfl, rfl⟩
  go_wp2_with fail
  refine his.mono ?_
  rintro e w1 ⟨rfl, rfl⟩
  go_wp2
  go_ret
  exact ⟨rfl, rfl⟩
set_option maxHeartbeats 800000 in
set_option maxRecDepth 8000 in
theorem isSquare_any (p a : Int) (w : World) (hp : 2 ≤ p) (hp2 : p ≤ 13) :
    Calls Tryz.prog 166 #[.int .i64 p, .int .i64 a] w fun e w' => e = .returned (.bool (rootF p a p.toNat 0).isSome) ∧ w = w' := by
  cases hr : rootF p a p.toNat 0 with
  | none =>
    have h := root_none (p := p) (a := a) w hp hp2 hr
    clear hr
    go_enter Tryz.func166, Tryz.ntmps166
    go_wp2_with fail
    refine h.mono ?_
    rintro e w1 ⟨rfl, rfl⟩
    go_wp2
    go_ret
    exact ⟨rfl, rfl⟩
  | some r =>
    have h := root_some (p := p) (a := a) w hp hp2 hr
    clear hr
    go_enter Tryz.func166, Tryz.ntmps166
    go_wp2_with fail
    refine h.mono ?_
    rintro e w1 ⟨rfl, rfl⟩
    go_wp2
    go_ret
    exact ⟨rfl, rfl⟩
set_option maxHeartbeats 800000 in
set_option maxRecDepth 8000 in
theorem IsSquare_ok (p a : Int) (w : World) (HP : isP p = true) (h0 : 0 ≤ a) (h1 : a < p) :
    Calls Tryz.prog 33 #[.int .i64 p, .int .i64 a] w fun e w' => e = .returned (.tuple #[.bool (rootF p a p.toNat 0).isSome, .int .i64 0]) ∧ Below w.heap.size w w' := by
  obtain ⟨hp3, hp2⟩ := isP_ge HP
  have hM := Mk.lit (E := 2) (Below.refl w.heap.size w) #[.int .i64 a] (by simp [maxLen])
  have hb := hM.1
  have hrd : Rd (w.alloc (.cells #[.int .i64 a] 2)) (some ⟨w.heap.size, 0, none⟩) 1 (ints [a]) := by
    have := hM.2.rd
    simpa [ints] using this
  have hck := checkNumbers_ok p (some ⟨w.heap.size, 0, none⟩) 1 1 [a] (w.alloc (.cells #[.int .i64 a] 2)) HP (by omega) hrd (by simp [nums, inR]; omega)
  have hsq := isSquare_any p a (w.alloc (.cells #[.int .i64 a] 2)) (by omega) hp2
  obtain ⟨b, hbb⟩ : ∃ b, b = (rootF p a p.toNat 0).isSome := ⟨_, rfl⟩
  rw [← hbb] at hsq ⊢
  clear hM hrd hbb HP
  go_enter Tryz.func33, Tryz.ntmps33
  go_wp2_with fail
  refine hck.mono ?_
  rintro e w1 ⟨rfl, rfl⟩
  clear hck
  go_wp2_with fail
  refine hsq.mono ?_
  rintro e w1 ⟨rfl, rfl⟩
  go_wp2
  go_ret2
  exact ⟨rfl, hb⟩
end Go.Proofs.YtdbibmilicjllaaGreat
namespace Go.Proofs.YtdbibmilicjllaaGreat
open Go.RowKit
/-- DecomposeOrthogonal. -/
def decR (P : Int) (sq : List Int) (M : List (List Int)) : List (List Int) × Int := if codeO P sq M = 0 then (decL P sq M, 0) else ([], codeO P sq M)
theorem decR_ok {P : Int} {sq : List Int} {M : List (List Int)} (h : codeO P sq M = 0) : decR P sq M = (decL P sq M, 0) := by unfold decR; rw [if_pos h]
theorem decR_bad {P : Int} {sq : List Int} {M : List (List Int)} (h : ¬ codeO P sq M = 0) : decR P sq M = ([], codeO P sq M) := by unfold decR; rw [if_neg h]
theorem MkO.nil {w w' : World} (h : Below w.heap.size w w') : MkO w w' none 0 0 [] := (MkII.nil h).o
set_option maxHeartbeats 3200000 in
set_option maxRecDepth 8000 in
theorem DecomposeOrthogonal_any (P : Int) (A : Option Addr) (n c : Nat) (sq : List Int) (D : Option Addr) (r d : Nat) (M : List (List Int)) (m : Nat) (w : World) (hn : n ≤ 1048576) (hr0 : 0 < r) (hr : r ≤ 16) (hm1 : 1 ≤ m) (hm : m ≤ 16) (ha : Rd w A n (ints sq)) (hd : RdII w D r M) (hM : Rect m M) :
    Calls Tryz.prog 26 #[.agg #[.int .i64 P, .slice A n c], .slice D r d] w fun e w' => ∃ (A' : Option Addr) (k c' : Nat), e = .returned (.tuple #[.slice A' k c', .int .i64 (decR P sq M).2]) ∧ MkO w w' A' k c' (decR P sq M).1 := by
  have hB0 : Below w.heap.size w (w.alloc (.cells #[.int .i64 P, .slice A n c] 26)) := (Below.refl _ _).alloc (Nat.le_refl _) _
  have k0 : Blk (w.alloc (.cells #[.int .i64 P, .slice A n c] 26)) w.heap.size 26 #[.int .i64 P, .slice A n c] := Blk.new _ _ _
  have hck := checkOrthogonal_any P A n c sq D r d M m (w.alloc (.cells #[.int .i64 P, .slice A n c] 26)) hn hr0 hr hm1 hm (ha.below hB0) (hd.below hB0) hM
  obtain ⟨R, hR⟩ : ∃ R, R = decR P sq M := ⟨_, rfl⟩
  rw [← hR]
  by_cases hc : codeO P sq M = 0
  · rw [hc] at hck
    rw [decR_ok hc] at hR
    obtain ⟨h1, h2, h3⟩ := codeO_zero hc
    have hsl := ha.lenI
    obtain ⟨hl, hT⟩ := isoB_frame h3
    obtain rfl : n = r := by rw [← hsl, ← hl]; exact hd.len
    have hdc := Lib.hid fun w' (h : Below w.heap.size w w') => decomposition_any P A n c sq D d M w' h1 h2 (ha.below h) (hd.below h) h3
    obtain ⟨L, hL⟩ : ∃ L, L = decL P sq M := ⟨_, rfl⟩
    rw [← hL] at hdc hR
    subst hR
    clear hc h1 h2 h3 hsl hl hT hL hM ha hd
    go_enter Tryz.func26, Tryz.ntmps26
    obtain ⟨q0, q1⟩ := k0.two
    go_wp2_with fail
    refine hck.mono ?_
    rintro e w2 ⟨rfl, hb2⟩
    have hB2 := hB0.trans (hb2.mono hB0.size)
    have k2 := k0.below hb2 k0.lt
    clear q0 q1
    obtain ⟨q0, q1⟩ := k2.two
    go_wp2_with fail
    refine (hdc.out w2 hB2).mono ?_
    rintro e w3 ⟨A3, c3, rfl, hM3⟩
    go_wp2
    go_ret2
    exact ⟨_, _, _, rfl, hM3.after hB2⟩
  · rw [decR_bad hc] at hR
    obtain ⟨v, hv⟩ : ∃ v, v = codeO P sq M := ⟨_, rfl⟩
    rw [← hv] at hck hR
    have b0 : (v != 0) = true := code_ne (by rw [hv]; exact hc)
    have b1 : (v == 0) = false := by
      rw [beq_eq_false_iff_ne]; rw [hv]; exact hc
    subst hR
    clear hc hv hM ha hd
    go_enter Tryz.func26, Tryz.ntmps26
    obtain ⟨q0, q1⟩ := k0.two
    go_wp2_with fail
    refine hck.mono ?_
    rintro e w2 ⟨rfl, hb2⟩
    have hB2 := hB0.trans (hb2.mono hB0.size)
    have k2 := k0.below hb2 k0.lt
    clear q0 q1
    go_wp2
    go_ret2
    exact ⟨none, 0, 0, rfl, MkO.nil hB2⟩
set_option maxHeartbeats 3200000 in
set_option maxRecDepth 8000 in
theorem specDecomposeOrthogonal_any (P : Int) (A : Option Addr) (n c : Nat) (sq : List Int) (D : Option Addr) (r d : Nat) (M : List (List Int)) (m : Nat) (w : World) (hn : n ≤ 1048576) (hr0 : 0 < r) (hr : r ≤ 16) (hm1 : 1 ≤ m) (hm : m ≤ 16) (ha : Rd w A n (ints sq)) (hd : RdII w D r M) (hM : Rect m M) :
    Calls Tryz.prog 27 #[.agg #[.int .i64 P, .slice A n c], .slice D r d] w fun e w' => ∃ (A' : Option Addr) (k c' : Nat), e = .returned (.tuple #[.slice A' k c', .int .i64 (decR P sq M).2]) ∧ MkO w w' A' k c' (decR P sq M).1 := by
  have hB0 : Below w.heap.size w (w.alloc (.cells #[.int .i64 P, .slice A n c] 26)) := (Below.refl _ _).alloc (Nat.le_refl _) _
  have k0 : Blk (w.alloc (.cells #[.int .i64 P, .slice A n c] 26)) w.heap.size 26 #[.int .i64 P, .slice A n c] := Blk.new _ _ _
  have hck := l08Code_any P A n c sq D r d M m (w.alloc (.cells #[.int .i64 P, .slice A n c] 26)) hn hr0 hr hm1 hm (ha.below hB0) (hd.below hB0) hM
  obtain ⟨R, hR⟩ : ∃ R, R = decR P sq M := ⟨_, rfl⟩
  rw [← hR]
  by_cases hc : codeO P sq M = 0
  · rw [hc] at hck
    rw [decR_ok hc] at hR
    obtain ⟨h1, h2, h3⟩ := codeO_zero hc
    have hsl := ha.lenI
    obtain ⟨hl, hT⟩ := isoB_frame h3
    obtain rfl : n = r := by rw [← hsl, ← hl]; exact hd.len
    have hdc := Lib.hid fun w' (h : Below w.heap.size w w') => l08Decompose_any P A n c sq D d M w' h1 h2 (ha.below h) (hd.below h) h3
    obtain ⟨L, hL⟩ : ∃ L, L = decL P sq M := ⟨_, rfl⟩
    rw [← hL] at hdc hR
    subst hR
    clear hc h1 h2 h3 hsl hl hT hL hM ha hd
    go_enter Tryz.func27, Tryz.ntmps27
    obtain ⟨q0, q1⟩ := k0.two
    go_wp2_with fail
    refine hck.mono ?_
    rintro e w2 ⟨rfl, hb2⟩
    have hB2 := hB0.trans (hb2.mono hB0.size)
    have k2 := k0.below hb2 k0.lt
    clear q0 q1
    obtain ⟨q0, q1⟩ := k2.two
    go_wp2_with fail
    refine (hdc.out w2 hB2).mono ?_
    rintro e w3 ⟨A3, c3, rfl, hM3⟩
    go_wp2
    go_ret2
    exact ⟨_, _, _, rfl, hM3.after hB2⟩
  · rw [decR_bad hc] at hR
    obtain ⟨v, hv⟩ : ∃ v, v = codeO P sq M := ⟨_, rfl⟩
    rw [← hv] at hck hR
    have b0 : (v != 0) = true := code_ne (by rw [hv]; exact hc)
    have b1 : (v == 0) = false := by
      rw [beq_eq_false_iff_ne]; rw [hv]; exact hc
    subst hR
    clear hc hv hM ha hd
    go_enter Tryz.func27, Tryz.ntmps27
    obtain ⟨q0, q1⟩ := k0.two
    go_wp2_with fail
    refine hck.mono ?_
    rintro e w2 ⟨rfl, hb2⟩
    have hB2 := hB0.trans (hb2.mono hB0.size)
    have k2 := k0.below hb2 k0.lt
    clear q0 q1
    go_wp2
    go_ret2
    exact ⟨none, 0, 0, rfl, MkO.nil hB2⟩
set_option maxHeartbeats 1600000 in
set_option maxRecDepth 8000 in
theorem VersorOfMatrix_ok (P : Int) (A : Option Addr) (n c : Nat) (sq : List Int) (D : Option Addr) (d : Nat) (M : List (List Int)) (w : World) (hsp : isSp P sq = true) (hreg : regB sq = true) (ha : Rd w A n (ints sq)) (hd : RdII w D n M) (hiso : isoB P sq M = true) :
    Calls Tryz.prog 29 #[.agg #[.int .i64 P, .slice A n c], .slice D n d] w fun e w' => ∃ (A' : Option Addr) (c' : Nat), e = .returned (.tuple #[.slice A' (pw n) c', .int .i64 0]) ∧ MkI w w' A' (pw n) c' (versL P sq n (decL P sq M)) := by
  have hB0 : Below w.heap.size w (w.alloc (.cells #[.int .i64 P, .slice A n c] 26)) := (Below.refl _ _).alloc (Nat.le_refl _) _
  have k0 : Blk (w.alloc (.cells #[.int .i64 P, .slice A n c] 26)) w.heap.size 26 #[.int .i64 P, .slice A n c] := Blk.new _ _ _
  have hsl := ha.lenI
  obtain ⟨HP, hd1, hd2, hnum⟩ := isSp_dim hsp
  obtain ⟨hp3, hp2⟩ := isP_ge HP
  obtain ⟨hl, hT⟩ := isoB_frame hiso
  have hall := dec_all HP hd1 (nums_numsL hnum) hreg hT hl hiso
  rw [hsl] at hd1 hd2 hl hT
  have hck := checkOrthogonal_any P A n c sq D n d M n (w.alloc (.cells #[.int .i64 P, .slice A n c] 26)) (by omega) hd1 (by omega) hd1 (by omega) (ha.below hB0) (hd.below hB0) (Rect.of_tab hT)
  rw [codeO_mk hsp hreg hiso] at hck
  have hdc := Lib.hid fun w' (h : Below w.heap.size w w') => decomposition_any P A n c sq D d M w' hsp hreg (ha.below h) (hd.below h) hiso
  obtain ⟨L, hL⟩ : ∃ L, L = decL P sq M := ⟨_, rfl⟩
  rw [← hL] at hdc hall ⊢
  have HTL : Hid (Tab P n L) := Lib.hid fun v hv => by have := hall.2.1 v hv; exact ⟨by omega, this.2.1⟩
  have hlen : L.length ≤ 2 * n := by rw [← hsl]; exact hall.1
  have HQ := Lib.hid (nums_numsL hnum)
  have HPP := Lib.hid HP
  have HA := Lib.hid ha
  clear hall hsp hreg hiso hT hl hnum HP hL hd ha
  go_enter Tryz.func29, Tryz.ntmps29
  obtain ⟨q0, q1⟩ := k0.two
  go_wp2_with fail
  refine hck.mono ?_
  rintro e w2 ⟨rfl, hb2⟩
  have hB2 := hB0.trans (hb2.mono hB0.size)
  have k2 := k0.below hb2 k0.lt
  clear q0 q1
  have hdc2 := Lib.hid fun w' (h : Below w2.heap.size w2 w') => hdc.out w' (hB2.trans (h.mono hB2.size))
  have HVE := Lib.hid fun w' (A3 : Option Addr) (c3 : Nat) (h : Below w2.heap.size w2 w') (r3 : RdII w' A3 L.length L) => versor_any P A n c sq A3 L.length c3 L w' HPP.out hd2 hd1 (by omega) (HA.out.below (hB2.trans (h.mono hB2.size))) HQ.out r3 HTL.out
  clear hdc hck k0 hB0
  go_wp2
  refine wp_obs 7 [[], [], [], [1, 2], [0, 1, 2, 3], [0, 1, 2, 3, 4], []] [VIs (.agg #[.int .i64 P, .slice A n c]), VIs (.agg #[.int .i64 P, .slice A n c]), VIs (.slice D n d), VRow L.length L, VSl w2 (pw n) (versL P sq n L), VSl w2 (pw n) (versL P sq n L), VIs (.int .i64 0)] (fun w' => Blk w' w.heap.size 26 #[.int .i64 P, .slice A n c] ∧ Below w2.heap.size w2 w') (by kernel_rfl) (by kernel_rfl) (fun _ _ h hb => ⟨h.1.below hb h.1.lt, h.2.trans (hb.mono h.2.size)⟩) (⟨k2.drew, (Below.refl _ _).drew⟩) (fun x => ?_)
  refine obs_step (Eq.trans (by simp only [zA, zC]; exact rfl) rfl) rfl (fun w' hS hV K hK => ?_) ?_
  · obtain ⟨q0, q1⟩ := hS.1.two
    go_simp
    exact hK.out _ _ _ rfl rfl rfl (Below.refl _ _)
  simp only [zD, zE, zF]
  refine obs_step (Eq.trans (by simp only [zA, zB, zC]; exact rfl) rfl) rfl (fun w' hS hV K hK => ?_) ?_
  · obtain ⟨q0, q1⟩ := hS.1.two
    go_simp
    exact hK.out _ _ _ rfl rfl rfl (Below.refl _ _)
  simp only [zD, zE, zF]
  refine obs_step (Eq.trans (by simp only [zA, zB, zC]; exact rfl) rfl) rfl (fun w' hS hV K hK => ?_) ?_
  · obtain ⟨q0, q1⟩ := hS.1.two
    go_simp
    exact hK.out _ _ _ rfl rfl rfl (Below.refl _ _)
  simp only [zD, zE, zF]
  refine obs_step (Eq.trans (by simp only [zA, zB, zC]; exact rfl) rfl) rfl (fun w' hS hV K hK => ?_) ?_
  · have e1 : x 1 = (.agg #[.int .i64 P, .slice A n c]) := hV 1 (by decide)
    have e2 : x 2 = (.slice D n d) := hV 2 (by decide)
    obtain ⟨q0, q1⟩ := hS.1.two
    go_simp
    refine (hdc2.out w' hS.2).mono ?_
    rintro e v1 ⟨A9, c9, rfl, hM⟩
    exact hK.out _ _ _ rfl rfl ⟨_, _, rfl, hM.rd⟩ hM.b
  simp only [zD, zE, zF]
  refine obs_step (Eq.trans (by simp only [zA, zB, zC]; exact rfl) rfl) rfl (fun w' hS hV K hK => ?_) ?_
  · have e0 : x 0 = (.agg #[.int .i64 P, .slice A n c]) := hV 0 (by decide)
    obtain ⟨A3, c3, e3, h3⟩ := hV 3 (by decide)
    obtain ⟨q0, q1⟩ := hS.1.two
    go_simp
    refine (HVE.out w' _ _ hS.2 h3).mono ?_
    rintro e v1 ⟨A9, c9, rfl, hM⟩
    exact hK.out _ _ _ rfl rfl ⟨_, _, rfl, hM.after hS.2⟩ hM.b
  simp only [zD, zE, zF]
  refine obs_step (Eq.trans (by simp only [zA, zB, zC]; exact rfl) rfl) rfl (fun w' hS hV K hK => ?_) ?_
  · obtain ⟨A3, c3, e3, h3⟩ := hV 3 (by decide)
    obtain ⟨A4, c4, e4, h4⟩ := hV 4 (by decide)
    obtain ⟨q0, q1⟩ := hS.1.two
    go_simp
    exact hK.out _ _ _ rfl rfl ⟨_, _, rfl, h4⟩ (Below.refl _ _)
  simp only [zD, zE, zF]
  refine obs_step (Eq.trans (by simp only [zA, zB, zC]; exact rfl) rfl) rfl (fun w' hS hV K hK => ?_) ?_
  · obtain ⟨q0, q1⟩ := hS.1.two
    go_simp
    exact hK.out _ _ _ rfl rfl rfl (Below.refl _ _)
  simp only [zD, zE, zF]
  refine fun w' hS hV => ?_
  have e0 : x 0 = (.agg #[.int .i64 P, .slice A n c]) := hV 0 (by decide)
  have e1 : x 1 = (.agg #[.int .i64 P, .slice A n c]) := hV 1 (by decide)
  have e2 : x 2 = (.slice D n d) := hV 2 (by decide)
  obtain ⟨A3, c3, e3, h3⟩ := hV 3 (by decide)
  obtain ⟨A4, c4, e4, h4⟩ := hV 4 (by decide)
  obtain ⟨A5, c5, e5, h5⟩ := hV 5 (by decide)
  have e6 : x 6 = (.int .i64 0) := hV 6 (by decide)
  simp only [e0, e1, e2, e3, e4, e5, e6]
  clear e0 e1 e2 e3 e4 e5 e6
  refine wpAny_done (by kernel_rfl) ?_ _
  have hM := h5.after hB2
  clear hS
  go_wp2
  go_ret2
  exact ⟨_, _, rfl, hM⟩
theorem nrmP_snoc (sq : List Int) (v : List Int) : ∀ L : List (List Int), nrmP sq (L ++ [v]) = nrmP sq L * bil sq v v
  | [] => by show bil sq v v * 1 = 1 * bil sq v v; rw [Int.mul_comm]
  | u :: L => by show bil sq u u * nrmP sq (L ++ [v]) = bil sq u u * nrmP sq L * bil sq v v; rw [nrmP_snoc sq v L, Int.mul_assoc]
theorem nrmP_take {sq : List Int} {L : List (List Int)} {k : Nat} (h : k < L.length) : nrmP sq (L.take (k + 1)) = nrmP sq (L.take k) * bil sq L[k] L[k] := by
  rw [List.take_succ_eq_append_getElem h, nrmP_snoc]
set_option maxHeartbeats 3200000 in
set_option maxRecDepth 8000 in
theorem HasSquareNorm_ok (P : Int) (A : Option Addr) (n c : Nat) (sq : List Int) (D : Option Addr) (d : Nat) (M : List (List Int)) (w : World) (hsp : isSp P sq = true) (hreg : regB sq = true) (ha : Rd w A n (ints sq)) (hd : RdII w D n M) (hiso : isoB P sq M = true) :
    Calls Tryz.prog 31 #[.agg #[.int .i64 P, .slice A n c], .slice D n d] w fun e w' => e = .returned (.tuple #[.bool (rootF P (nrmP sq (decL P sq M) % P) P.toNat 0).isSome, .int .i64 0]) ∧ Below w.heap.size w w' := by
  have hB0 : Below w.heap.size w (w.alloc (.cells #[.int .i64 P, .slice A n c] 26)) := (Below.refl _ _).alloc (Nat.le_refl _) _
  have k0 : Blk (w.alloc (.cells #[.int .i64 P, .slice A n c] 26)) w.heap.size 26 #[.int .i64 P, .slice A n c] := Blk.new _ _ _
  have hsl := ha.lenI
  obtain ⟨HP, hd1, hd2, hnum⟩ := isSp_dim hsp
  obtain ⟨hp3, hp2⟩ := isP_ge HP
  obtain ⟨hl, hT⟩ := isoB_frame hiso
  have hall := dec_all HP hd1 (nums_numsL hnum) hreg hT hl hiso
  rw [hsl] at hd1 hd2 hl hT
  have hck := checkOrthogonal_any P A n c sq D n d M n (w.alloc (.cells #[.int .i64 P, .slice A n c] 26)) (by omega) hd1 (by omega) hd1 (by omega) (ha.below hB0) (hd.below hB0) (Rect.of_tab hT)
  rw [codeO_mk hsp hreg hiso] at hck
  have hdc := Lib.hid fun w' (h : Below w.heap.size w w') => decomposition_any P A n c sq D d M w' hsp hreg (ha.below h) (hd.below h) hiso
  obtain ⟨L, hL⟩ : ∃ L, L = decL P sq M := ⟨_, rfl⟩
  rw [← hL] at hdc hall ⊢
  have HTL : Hid (Tab P n L) := Lib.hid fun v hv => by have := hall.2.1 v hv; exact ⟨by omega, this.2.1⟩
  have hlen : L.length ≤ 2 * n := by rw [← hsl]; exact hall.1
  have HQ := Lib.hid (nums_numsL hnum)
  have HPP := Lib.hid HP
  have HA := Lib.hid ha
  clear hall hsp hreg hiso hT hl hnum HP hL hd ha
  go_enter Tryz.func31, Tryz.ntmps31
  obtain ⟨q0, q1⟩ := k0.two
  go_wp2_with fail
  refine hck.mono ?_
  rintro e w2 ⟨rfl, hb2⟩
  have hB2 := hB0.trans (hb2.mono hB0.size)
  have k2 := k0.below hb2 k0.lt
  clear q0 q1
  obtain ⟨q0, q1⟩ := k2.two
  go_wp2_with fail
  refine (hdc.out w2 hB2).mono ?_
  rintro e w3 ⟨A3, c3, rfl, hM3⟩
  have hB3 := hB2.trans (hM3.b.mono hB2.size)
  have r3 := hM3.rd
  have k3 := k2.below hM3.b k2.lt
  have hp1 : (1 : Int) = nrmP sq (L.take 0) % P := by show (1 : Int) = 1 % P; rw [Int.emod_eq_of_lt (by omega) (by omega)]
  obtain ⟨l, hl⟩ : ∃ l, l = L.length := ⟨_, rfl⟩
  rw [← hl] at r3 ⊢
  have HLL := Lib.hid hl
  have hl12 : l ≤ 12 := by omega
  have HN0 := Lib.hid hp1
  clear hM3 q0 q1 hdc hck k0 hB0 k2 hp1 hl
  go_wp2
  go_loopw [7, 20] (fun pv iv wr => ∃ (k : Nat), k ≤ l ∧ iv = .int .i64 k ∧ pv = .int .i64 (nrmP sq (L.take k) % P) ∧ Below w3.heap.size w3 wr) (fun _ iv _ => l - (intOf iv).toNat)
  case atStart => exact ⟨0, by omega, rfl, by rw [← HN0.out], Below.refl _ _⟩
  case round =>
    obtain ⟨k, hk, rfl, rfl, hbr⟩ := hrel
    have kk := k3.below hbr k3.lt
    obtain ⟨q0, q1⟩ := kk.two
    have hsm : 0 ≤ nrmP sq (L.take k) % P ∧ nrmP sq (L.take k) % P < P := ⟨Int.emod_nonneg _ (by omega), Int.emod_lt_of_pos _ (by omega)⟩
    by_cases hlt : k < l
    · obtain ⟨g, o, rfl, hx, R, f, hc, hrw, -⟩ := (r3.below hbr).at_ hlt
      have hv := HTL.out L[k] (List.getElem_mem hx)
      rw [hv.1] at hc hrw
      obtain ⟨z, hz⟩ : ∃ z, z = nrmP sq (L.take k) % P := ⟨_, rfl⟩
      have HST : Hid (z * pairL P sq L[k] L[k] % P = nrmP sq (L.take (k + 1)) % P) := Lib.hid (by
        rw [nrmP_take hx, hz]
        exact cg_mul (cg_self _ _) (pairL_bil (by rw [hv.1, hsl])))
      obtain ⟨v, hve⟩ : ∃ v, v = L[k] := ⟨_, rfl⟩
      rw [← hve] at hv hrw HST
      have hps := pairL_small (P := P) (show 2 ≤ P by omega) sq v v
      rw [← hz] at hsm ⊢
      have HNV := Lib.hid hv.2
      clear hve hv hx hz
      have HNO := Lib.hid fun w' (h : Below wr.heap.size wr w') => norm_any P A n c sq R f v w' (by omega) hp2 hd2 (HA.out.below (hB3.trans ((hbr.trans (h.mono hbr.size)).mono hB3.size))) HQ.out (hrw.below h) HNV.out
      obtain ⟨y, hy⟩ : ∃ y, y = pairL P sq v v := ⟨_, rfl⟩
      rw [← hy] at HNO hps HST
      have hzy := mul_two_small hp2 hsm hps
      have W1 : IntKind.i64.wrap (z * y) = z * y := i64_fit _ (by omega) (by omega)
      clear hy hrw
      go_wp2
      refine wp_obs 8 [[], [0], [], [], [], [3, 4], [2, 3, 4, 5], [0, 1, 2, 3, 4, 5, 6], [0, 1, 2, 3, 4, 5, 6, 7]] [VIs (.agg #[.int .i64 P, .slice A n c]), VIs (.int .i64 (P)), VIs (.int .i64 (z)), VIs (.agg #[.int .i64 P, .slice A n c]), VIs (.slice R n f), VIs (.int .i64 (y)), VIs (.int .i64 (z * y)), VIs (.int .i64 (z * y % P))] (fun w' => Blk w' w.heap.size 26 #[.int .i64 P, .slice A n c] ∧ Below wr.heap.size wr w') (by kernel_rfl) (by kernel_rfl) (fun _ _ h hb => ⟨h.1.below hb h.1.lt, h.2.trans (hb.mono h.2.size)⟩) (⟨kk.drew, (Below.refl _ _).drew⟩) (fun x => ?_)
      refine obs_step (Eq.trans (by simp only [zA, zC]; exact rfl) rfl) rfl (fun w' hS hV K hK => ?_) ?_
      · obtain ⟨q0, q1⟩ := hS.1.two
        go_simp
        exact hK.out _ _ _ rfl rfl rfl (Below.refl _ _)
      simp only [zD, zE, zF]
      refine obs_step (Eq.trans (by simp only [zA, zB, zC]; exact rfl) rfl) rfl (fun w' hS hV K hK => ?_) ?_
      · have e0 : x 0 = (.agg #[.int .i64 P, .slice A n c]) := hV 0 (by decide)
        obtain ⟨q0, q1⟩ := hS.1.two
        go_simp
        refine (field_any P A n c w').mono ?_
        rintro e v1 ⟨rfl, hb⟩
        exact hK.out _ _ _ rfl rfl rfl hb
      simp only [zD, zE, zF]
      refine obs_step (Eq.trans (by simp only [zA, zB, zC]; exact rfl) rfl) rfl (fun w' hS hV K hK => ?_) ?_
      · obtain ⟨q0, q1⟩ := hS.1.two
        go_simp
        exact hK.out _ _ _ rfl rfl rfl (Below.refl _ _)
      simp only [zD, zE, zF]
      refine obs_step (Eq.trans (by simp only [zA, zB, zC]; exact rfl) rfl) rfl (fun w' hS hV K hK => ?_) ?_
      · obtain ⟨q0, q1⟩ := hS.1.two
        go_simp
        exact hK.out _ _ _ rfl rfl rfl (Below.refl _ _)
      simp only [zD, zE, zF]
      refine obs_step (Eq.trans (by simp only [zA, zB, zC]; exact rfl) rfl) rfl (fun w' hS hV K hK => ?_) ?_
      · obtain ⟨q0, q1⟩ := hS.1.two
        go_simp
        exact hK.out _ _ _ rfl rfl rfl (Below.refl _ _)
      simp only [zD, zE, zF]
      refine obs_step (Eq.trans (by simp only [zA, zB, zC]; exact rfl) rfl) rfl (fun w' hS hV K hK => ?_) ?_
      · have e3 : x 3 = (.agg #[.int .i64 P, .slice A n c]) := hV 3 (by decide)
        have e4 : x 4 = (.slice R n f) := hV 4 (by decide)
        obtain ⟨q0, q1⟩ := hS.1.two
        go_simp
        refine (HNO.out w' hS.2).mono ?_
        rintro e v1 ⟨rfl, hb⟩
        exact hK.out _ _ _ rfl rfl rfl hb
      simp only [zD, zE, zF]
      refine obs_step (Eq.trans (by simp only [zA, zB, zC]; exact rfl) rfl) rfl (fun w' hS hV K hK => ?_) ?_
      · have e2 : x 2 = (.int .i64 (z)) := hV 2 (by decide)
        have e5 : x 5 = (.int .i64 (y)) := hV 5 (by decide)
        obtain ⟨q0, q1⟩ := hS.1.two
        go_simp
        exact hK.out _ _ _ rfl rfl rfl (Below.refl _ _)
      simp only [zD, zE, zF]
      refine obs_step (Eq.trans (by simp only [zA, zB, zC]; exact rfl) rfl) rfl (fun w' hS hV K hK => ?_) ?_
      · have e1 : x 1 = (.int .i64 (P)) := hV 1 (by decide)
        have e6 : x 6 = (.int .i64 (z * y)) := hV 6 (by decide)
        obtain ⟨q0, q1⟩ := hS.1.two
        go_simp
        refine (num_any P (z * y) w' (by omega) hp2 (by omega) (by omega)).mono ?_
        rintro e v1 ⟨rfl, rfl⟩
        exact hK.out _ _ _ rfl rfl rfl (Below.refl _ _)
      simp only [zD, zE, zF]
      refine fun w' hS hV => ?_
      have e0 : x 0 = (.agg #[.int .i64 P, .slice A n c]) := hV 0 (by decide)
      have e1 : x 1 = (.int .i64 (P)) := hV 1 (by decide)
      have e2 : x 2 = (.int .i64 (z)) := hV 2 (by decide)
      have e3 : x 3 = (.agg #[.int .i64 P, .slice A n c]) := hV 3 (by decide)
      have e4 : x 4 = (.slice R n f) := hV 4 (by decide)
      have e5 : x 5 = (.int .i64 (y)) := hV 5 (by decide)
      have e6 : x 6 = (.int .i64 (z * y)) := hV 6 (by decide)
      have e7 : x 7 = (.int .i64 (z * y % P)) := hV 7 (by decide)
      simp only [e0, e1, e2, e3, e4, e5, e6, e7]
      clear e0 e1 e2 e3 e4 e5 e6 e7
      refine any_one (j := 8) (by kernel_rfl) (Eq.trans (by simp only [zA, zB, zC]; exact rfl) rfl) (fun K hK => ?_)
      go_simp
      refine hK.out _ _ (wpAny_done (by kernel_rfl) ?_ _)
      have hb8 := hbr.trans (hS.2.mono hbr.size)
      obtain ⟨w9, rfl⟩ : ∃ W, W = w' := ⟨_, rfl⟩
      clear hS
      go_wp2
      go_roundw
      case rel => exact ⟨k + 1, by omega, by go_num, by rw [HST.out], hb8⟩
      case measure => simp [intOf]; omega
    · obtain rfl : k = l := by omega
      rw [List.take_of_length_le (by rw [← HLL.out]; omega)] at hsm ⊢
      obtain ⟨z, hz⟩ : ∃ z, z = nrmP sq L % P := ⟨_, rfl⟩
      rw [← hz] at hsm ⊢
      have HZ := Lib.hid hz
      clear hz
      go_wp2_with fail
      refine (field_any P A n c wr).mono ?_
      rintro e w5 ⟨rfl, hb5⟩
      go_wp2_with fail
      refine (isSquare_any P z w5 (by omega) hp2).mono ?_
      rintro e w6 ⟨rfl, rfl⟩
      go_wp2
      go_ret2
      have hz9 := HZ.out
      subst hz9
      exact ⟨rfl, hB3.trans ((hbr.trans (hb5.mono hbr.size)).mono hB3.size)⟩
set_option maxHeartbeats 1600000 in
set_option maxRecDepth 8000 in
theorem ReflectionMatrix_ok (P : Int) (A : Option Addr) (n c : Nat) (sq : List Int) (U : Option Addr) (cu : Nat) (u : List Int) (w : World) (hsp : isSp P sq = true) (hreg : regB sq = true) (ha : Rd w A n (ints sq)) (hx : Rd w U n (ints u)) (hcu : n ≤ cu) (hu : NumsL P u) (hne : ¬ pairL P sq u u = 0) :
    Calls Tryz.prog 36 #[.agg #[.int .i64 P, .slice A n c], .slice U n cu] w fun e w' => ∃ (A' : Option Addr) (c' : Nat), e = .returned (.tuple #[.slice A' n c', .int .i64 0]) ∧ MkII w w' A' n c' (rmatL P sq n u) := by
  have hB0 : Below w.heap.size w (w.alloc (.cells #[.int .i64 P, .slice A n c] 26)) := (Below.refl _ _).alloc (Nat.le_refl _) _
  have k0 : Blk (w.alloc (.cells #[.int .i64 P, .slice A n c] 26)) w.heap.size 26 #[.int .i64 P, .slice A n c] := Blk.new _ _ _
  have hsl := ha.lenI
  obtain ⟨HP, hd1, hd2, hnum⟩ := isSp_dim hsp
  obtain ⟨hp3, hp2⟩ := isP_ge HP
  have hB1 : Below w.heap.size w ((w.alloc (.cells #[.int .i64 P, .slice A n c] 26)).alloc (.cells #[.slice U n cu] 24)) := hB0.alloc (by simp) _
  have k1 : Blk ((w.alloc (.cells #[.int .i64 P, .slice A n c] 26)).alloc (.cells #[.slice U n cu] 24)) w.heap.size 26 #[.int .i64 P, .slice A n c] := k0.alloc _
  have hck := checkVersV_any P A (some ⟨w.heap.size + 1, 0, none⟩) n c 1 1 sq [u] ((w.alloc (.cells #[.int .i64 P, .slice A n c] 26)).alloc (.cells #[.slice U n cu] 24)) (by omega) (by omega) (ha.below hB1) (rdII_one' (Blk.newAt3 (by simp)) (hx.below hB1) hcu) (all_one (by rw [hx.lenI]; omega))
  have hcode : codeVb P sq [u] = 0 := by
    unfold codeVb
    rw [codeV_mk hsp (all_one (isVe_mk (by rw [hx.lenI, hsl]) hu)), if_pos rfl, hreg]; rfl
  rw [hcode] at hck
  rw [hsl] at hd1 hd2
  have hno := Lib.hid fun w' (h : Below w.heap.size w w') => norm_any P A n c sq U cu u w' (by omega) hp2 hd2 (ha.below h) (nums_numsL hnum) (hx.below h) hu
  have hre := Lib.hid fun w' (h : Below w.heap.size w w') => reflection_any P A n c sq U cu u w' HP hd2 hd1 (ha.below h) (nums_numsL hnum) (hx.below h) hu hne
  obtain ⟨z, hz⟩ : ∃ z, z = pairL P sq u u := ⟨_, rfl⟩
  rw [← hz] at hno hne
  have e9 : (z == 0) = false := by simp [hne]
  clear hsl hnum hu hsp hreg hcode hz hne k0 hB0 HP
  go_enter Tryz.func36, Tryz.ntmps36
  obtain ⟨q0, q1⟩ := k1.two
  go_wp2_with fail
  refine hck.mono ?_
  rintro e w2 ⟨rfl, hb2⟩
  have hB2 := hB1.trans (hb2.mono hB1.size)
  have k2 := k1.below hb2 k1.lt
  clear q0 q1
  obtain ⟨q0, q1⟩ := k2.two
  go_wp2_with fail
  refine (hno.out w2 hB2).mono ?_
  rintro e w3 ⟨rfl, hb3⟩
  have hB3 := hB2.trans (hb3.mono hB2.size)
  have k3 := k2.below hb3 k2.lt
  clear q0 q1
  obtain ⟨q0, q1⟩ := k3.two
  go_wp2_with fail
  refine (hre.out w3 hB3).mono ?_
  rintro e w4 ⟨A4, c4, rfl, hM4⟩
  go_wp2
  go_ret2
  exact ⟨_, _, rfl, hM4.after hB3⟩
set_option maxHeartbeats 1600000 in
theorem Determinant_ok (p : Int) (A : Option Addr) (n c : Nat) (M : List (List Int)) (w : World) (HP : isP p = true) (hn0 : 0 < n) (hn : n ≤ 16) (ha : RdII w A n M) (hM : Tab p n M) :
    Calls Tryz.prog 34 #[.int .i64 p, .slice A n c] w fun e w' => e = .returned (.tuple #[.int .i64 (detL p M), .int .i64 0]) ∧ Below w.heap.size w w' := by
  have hck := checkSquare_ok p A n c M w HP hn0 hn ha hM
  have hde := Lib.hid fun w' (h : Below w.heap.size w w') => determinant_any p A n c M w' HP hn0 (by omega) (ha.below h) hM
  obtain ⟨z, hz⟩ : ∃ z, z = detL p M := ⟨_, rfl⟩
  rw [← hz] at hde ⊢
  clear hz hM
  go_enter Tryz.func34, Tryz.ntmps34
  go_wp2_with fail
  refine hck.mono ?_
  rintro e w2 ⟨rfl, hb2⟩
  go_wp2_with fail
  refine (hde.out w2 hb2).mono ?_
  rintro e w3 ⟨rfl, hb3⟩
  go_wp2
  go_ret2
  exact ⟨rfl, hb2.trans (hb3.mono hb2.size)⟩
set_option maxRecDepth 8000 in
theorem unit5_any (n : Nat) (w : World) (hn : n ≤ 65536) :
    Calls Tryz.prog 35 #[.int .i64 n] w fun e w' => ∃ A c, e = .returned (.slice A n c) ∧ MkII w w' A n c (unitM n) := by
  have hmk := make_i (P := Tryz.prog) 24 2 Tryz.underlying24 info_i n (by omega)
  have hM0 : MkII w (w.alloc (.cells #[] 24)) (some ⟨w.heap.size, 0, none⟩) 0 0 [] := MkII.empty (Below.refl _ _)
  go_enter Tryz.func35, Tryz.ntmps35
  go_wp2
  go_loopw [3, 4] (fun out i wr => ∃ (k : Nat) (A : Option Addr) (c : Nat), k ≤ n ∧ i = .int .i64 k ∧ out = .slice A k c ∧ MkII w wr A k c ((unitM n).take k)) (fun _ i _ => n - (intOf i).toNat)
  case atStart => exact ⟨0, _, _, by omega, rfl, rfl, by simpa using hM0⟩
  case round =>
    obtain ⟨k, A, c, hk, rfl, rfl, hM⟩ := hrel
    clear hM0
    by_cases hlt : k < n
    · have hm1 := Mk.made (E := 2) (n := n) (z := .int .i64 0) (Below.refl wr.heap.size wr) (by simp only [maxLen]; omega)
      rw [ints_replicate] at hm1
      obtain ⟨u1, hc1⟩ := hm1.2.cellI hlt
      have hf1 := hm1.2.frozen_ k
      have hm2 := (hm1.set k (.int .i64 1)).1
      rw [ints_set, World.setCell_alloc_at _ _ _ _ _ rfl] at hm2
      have HM := Lib.hid hM
      have HM2 := Lib.hid hm2
      clear hM hm1 hm2
      go_wp2_with (at_builtin; refine wpList_appRow w wr _ rfl _ _ rfl A k c _ _ n n _ HM.out HM2.out (by omega) rfl ?_ ?_; (go_simp); intro A' c' w' hM')
      go_roundw
      case rel => exact ⟨k + 1, A', c', by omega, by go_num, rfl, by rw [unitM_take n k hlt]; exact hM'⟩
      case measure => simp [intOf]; omega
    · go_wp2
      go_ret
      obtain rfl : k = n := by omega
      rw [List.take_of_length_le (by rw [unitM_len]; omega)] at hM
      exact ⟨_, _, rfl, hM⟩
end Go.Proofs.YtdbibmilicjllaaGreat
namespace Go.Proofs.YtdbibmilicjllaaGreat
section
variable {p : Int} {sq : List Int} {M : List (List Int)}
theorem dec_facts (hsp : isSp p sq = true) (hr : regB sq = true) (hiso : isoB p sq M = true) {n : Nat} (hn : sq.length = n) :
    (decL p sq M).length ≤ 12 ∧ (∀ v ∈ decL p sq M, v.length = n ∧ NumsL p v ∧ ¬ pairL p sq v v = 0) ∧ movR p sq (versL p sq n (decL p sq M)) = (M, 0) ∧ nrmL p sq (versL p sq n (decL p sq M)) = nrmP sq (decL p sq M) % p ∧ detL p M = (if (decL p sq M).length % 2 = 0 then 1 else p - 1) ∧
    ∃ PR : Nat → List (List Int), PR 0 = unitM n ∧ (∀ (k : Nat) (h : k < (decL p sq M).length), PR (k + 1) = timesM p (PR k) (rmatL p sq n (decL p sq M)[k])) ∧ (∀ k, Tab p n (PR k) ∧ (PR k).length = n) ∧ PR (decL p sq M).length = M := by
  subst hn
  obtain ⟨hP, hd1, hd2, hnum⟩ := isSp_dim hsp
  have h3 := isP_ge hP
  have hp : 2 ≤ p := by omega
  obtain ⟨hl, hT⟩ := isoB_frame hiso
  obtain ⟨h1, h2, h4⟩ := dec_all hP hd1 (nums_numsL hnum) hr hT hl hiso
  have h4 := h4 hp
  obtain ⟨L, hL⟩ : ∃ L, L = decL p sq M := ⟨_, rfl⟩
  rw [← hL] at h1 h2 h4 ⊢
  clear hL
  obtain ⟨v1, v2⟩ := versL_vers hP hd2 L h2
  have hvl : (versL p sq sq.length L).length = pw sq.length := versL_len p sq sq.length L.length L rfl
  have hvn : NumsL p (versL p sq sq.length L) := by
    rw [versL_prod (by omega) hp L h2.nums]
    exact (Cl.prod (by omega) L : Cl p sq).nums
  obtain ⟨-, -, c3⟩ := codeVr_mk hsp hr hvl hvn v1
  refine ⟨by omega, fun v hv => ?_, ?_, v2, dec_det hP hp hd1 h2 h4, fun k => (prodR hp hd1 (L.take k)).l, ?_, fun k hk => ?_, fun k => ⟨(prodR hp hd1 (L.take k)).tab, (prodR hp hd1 (L.take k)).len⟩, ?_⟩
  · obtain ⟨g1, g2, g3⟩ := h2 v hv
    exact ⟨g1, g2, fun e => g3 ((bil_same hP g1).1 e)⟩
  · unfold movR
    rw [if_pos c3, vmat_prod hP hp hd1 hd2 h2, h4]
  · exact Mt.one_l hp
  · show (prodR hp hd1 (L.take (k + 1))).l = timesM p (prodR hp hd1 (L.take k)).l (rmatL p sq sq.length L[k])
    rw [List.take_succ_eq_append_getElem hk, prodR_snoc, Mt.mul_l _ _ hd1]; rfl
  · show (prodR hp hd1 (L.take L.length)).l = M
    rw [List.take_length, h4]
theorem codeO_bad (h : ¬ codeO p sq M = 0) {b : Bool} {z : Int} (hb : (b, z) = iorR p sq M) : (z = 0 ∧ b = false ∧ codeO p sq M = 2) ∨ (z ≠ 0 ∧ codeO p sq M = z) := by
  have e := codeO_ior p sq M
  rw [← hb] at e
  change codeO p sq M = if z = 0 then (if b = true then 0 else 2) else z at e
  by_cases hz : z = 0
  · left
    rw [if_pos hz] at e
    cases b
    · exact ⟨hz, rfl, e⟩
    · exact absurd e h
  · right
    rw [if_neg hz] at e
    exact ⟨hz, e⟩
theorem codeO_good (h : codeO p sq M = 0) : iorR p sq M = (true, 0) := by
  obtain ⟨h1, h2, h3⟩ := codeO_zero h
  unfold iorR
  rw [if_pos h1, if_pos h2, h3]
end
end Go.Proofs.YtdbibmilicjllaaGreat
namespace Go.Proofs.YtdbibmilicjllaaGreat
open Go.RowKit
/-- The value is a pointer to a row's cell. -/
def VIy (gl ol k : Nat) : VP := ⟨fun v _ => ∃ j : Nat, j < k ∧ v = .pointer (some ⟨gl, ol + j, none⟩), fun _ _ _ h _ => h⟩
/-- The value is a number between two. -/
def VNt (a b : Nat) : VP := ⟨fun v _ => ∃ k : Nat, v = .int .i64 (k : Int) ∧ a ≤ k ∧ k ≤ b, fun _ _ _ h _ => h⟩
/-- The value is a list of lists of one length. -/
def VRm (B : Nat) : VP := ⟨fun v w => ∃ (A : Option Addr) (r c m : Nat) (L : List (List Int)), v = .slice A r c ∧ 0 < r ∧ r ≤ 16 ∧ 1 ≤ m ∧ m ≤ 16 ∧ Rect m L ∧ OwnM w B A r c L, fun _ _ _ ⟨A, r, c, m, L, e, h1, h2, h3, h4, h5, ho⟩ hb => ⟨A, r, c, m, L, e, h1, h2, h3, h4, h5, ho.below hb⟩⟩
theorem VRm.dr {B g : Nat} {T : TypeId} {v : Value} {w w' : World} (h : (VRm B).p v w) (d : Dr g T w w') (h1 : 24 ≠ T) (h2 : 2 ≠ T) : (VRm B).p v w' := by
  obtain ⟨A, r, c, m, L, e, a1, a2, a3, a4, a5, ho⟩ := h
  exact ⟨A, r, c, m, L, e, a1, a2, a3, a4, a5, ho.dr d h1 h2⟩
/-- A list of one list of one number. -/
theorem OwnM.lit1 {w : World} {B b0 b1 : Nat} {x : Int} (h0 : Blk w b0 2 #[.int .i64 x]) (h1 : Blk w b1 24 #[.slice (some ⟨b0, 0, none⟩) 1 1]) (hB0 : B ≤ b0) (hB1 : B ≤ b1) : OwnM w B (some ⟨b1, 0, none⟩) 1 1 [[x]] := by
  refine ⟨[.slice (some ⟨b0, 0, none⟩) 1 1], Own.of_cells (cs := #[.slice (some ⟨b0, 0, none⟩) 1 1]) hB1 h1 (by simp [maxLen]), rfl, fun k hk => ?_, fun i j g hij hi => ?_⟩
  · obtain rfl : k = 0 := by simp at hk; omega
    exact ⟨_, _, rfl, Own.of_cells (cs := #[.int .i64 x]) hB0 h0 (by simp [maxLen])⟩
  · have : j ≠ 0 := by omega
    obtain ⟨j, rfl⟩ : ∃ q, j = q + 1 := ⟨j - 1, by omega⟩
    simp
set_option maxHeartbeats 12800000 in
set_option maxRecDepth 8000 in
theorem l02Draw_any (g : Nat) (p : Int) (rows cols : Nat) (w : World) (hs : Src w g 225) (hp : 2 ≤ p) (hp2 : p ≤ 13) (hr : rows ≤ 100) (hc : cols ≤ 100) :
    Calls Tryz.prog 318 #[.pointer (some ⟨g, 0, none⟩), .int .i64 p, .int .i64 rows, .int .i64 cols] w fun e w' => ∃ (A' : Option Addr) (c' : Nat) (L : List (List Int)), e = .returned (.slice A' rows c') ∧ Tab p cols L ∧ OwnM w' w.heap.size A' rows c' L ∧ Dr g 225 w w' := by
  have d1 := (Dr.refl hs).alloc (.cells #[] 24)
  have l1 := OwnM.empty w (B := w.heap.size) (Nat.le_refl _)
  go_enter Tryz.func318, Tryz.ntmps318
  go_wp2
  go_loopw [9, 10] (fun l i wr => ∃ (k : Nat) (A0 : Option Addr) (c0 : Nat) (L : List (List Int)), k ≤ rows ∧ i = .int .i64 k ∧ l = .slice A0 k c0 ∧ Tab p cols L ∧ OwnM wr w.heap.size A0 k c0 L ∧ Dr g 225 w wr) (fun _ i _ => rows - (intOf i).toNat)
  case atStart => exact ⟨0, _, _, [], by omega, rfl, rfl, (fun u hu => by simp at hu), l1, d1⟩
  case round =>
    obtain ⟨k, A0, c0, L, hk, rfl, rfl, hTL, hL, hD⟩ := hrel
    clear l1 d1
    obtain ⟨wo, rfl⟩ : ∃ W, W = wr := ⟨_, rfl⟩
    have HTL := Lib.hid hTL
    have HL := Lib.hid hL
    have HD := Lib.hid hD
    clear hTL hL
    by_cases hlt : k < rows
    · have hli := nextList_any g p cols wo hD.s' (by omega) (by omega)
      clear hD
      go_wp2_with fail
      refine hli.mono ?_
      rintro e w3 ⟨A1, c1, v, rfl, hvl, hvx, hv, hd3⟩
      have HVL := Lib.hid (show v.length = cols ∧ NumsL p v from ⟨hvl, nums_of (by omega) hvx⟩)
      clear hli hvl hvx
      by_cases hk0 : 0 < k
      · have t1 : decide ((0 : Int) < (k : Int)) = true := by simp; omega
        have hnx := next_any g 4 w3 hd3.s' (by omega)
        go_wp2_with fail
        refine hnx.mono ?_
        rintro e w4 ⟨r8, rfl, _, _, hd8⟩
        have d4 := hd3.trans hd8
        by_cases h8 : r8 = 0
        · have e8 : (r8 == 0) = true := by simp [h8]
          have L4 := HL.out.dr d4 (by decide) (by decide)
          have D4 := HD.out.trans d4
          have D5 := Lib.hid d4
          obtain ⟨gl, ol, hx0, R0, d0, eA, -, -, -⟩ := HL.out.at_ hk0
          subst eA
          clear hnx hd3 hd8 hv HVL hx0 d4
          go_wp2
          refine wp_obsR 23 (Dr g 225) [[], [], [], [], [], [3, 4], [2, 3, 4, 5], [2, 3, 4, 5, 6], [], [], [3, 4, 5, 8, 9], [1, 2, 3, 4, 5, 6, 7, 8, 9, 10], [], [], [], [1, 2, 3, 4, 5, 6, 7, 8, 9, 10, 11, 13, 14], [1, 2, 3, 4, 5, 6, 7, 8, 9, 10, 11, 12, 13, 14, 15], [1, 2, 3, 4, 5, 6, 7, 8, 9, 10, 11, 12, 13, 14, 15, 16], [], [], [1, 2, 3, 4, 5, 6, 7, 8, 9, 10, 11, 13, 14, 15, 18, 19], [0, 1, 2, 3, 4, 5, 6, 7, 8, 9, 10, 11, 12, 13, 14, 15, 16, 17, 18, 19, 20], [0, 1, 2, 3, 4, 5, 6, 7, 8, 9, 10, 11, 12, 13, 14, 15, 16, 17, 18, 19, 20, 21]] [[], [], [], [], [], [99], [], [], [], [], [99], [], [], [], [], [99], [], [], [], [], [99], [], []] (fun x => [VIs (.int .i64 (p)), VIs (.int .i64 (p)), VIs (.slice (some ⟨gl, ol, none⟩) k c0), VIs (.pointer (some ⟨g, 0, none⟩)), VIs (.int .i64 (k)), VIz k, VIy gl ol k, VLs 0 cols p, VIs (.pointer (some ⟨g, 0, none⟩)), VIs (.int .i64 (p)), VIz p, VLs 0 cols p, VIs (.slice (some ⟨gl, ol, none⟩) k c0), VIs (.pointer (some ⟨g, 0, none⟩)), VIs (.int .i64 (k)), VIz k, VIy gl ol k, VLs 0 cols p, VIs (.pointer (some ⟨g, 0, none⟩)), VIs (.int .i64 (p)), VIz p, VLs w4.heap.size cols p, VLs w4.heap.size cols p]) (fun w' => OwnM w' w.heap.size (some ⟨gl, ol, none⟩) k c0 L ∧ Dr g 225 w4 w') (by kernel_rfl) (by kernel_rfl) (fun x x' j hx => by
              rcases j with _ | _ | _ | _ | _ | _ | _ | _ | _ | _ | _ | _ | _ | _ | _ | _ | _ | _ | _ | _ | _ | _ | _ | j
              · rfl
              · rfl
              · rfl
              · rfl
              · rfl
              · rfl
              · rfl
              · rfl
              · rfl
              · rfl
              · rfl
              · rfl
              · rfl
              · rfl
              · rfl
              · rfl
              · rfl
              · rfl
              · rfl
              · rfl
              · rfl
              · rfl
              · rfl
              · rfl)
            (weak_ofR [0, 1, 2, 3, 4, 5, 6, 7, 8, 9, 10, 11, 12, 13, 14, 15, 16, 17, 18, 19, 20, 21, 22] (by decide) (fun k hk x v w w' hp hr => by
              simp only [List.mem_cons, List.not_mem_nil, or_false] at hk
              rcases hk with rfl | rfl | rfl | rfl | rfl | rfl | rfl | rfl | rfl | rfl | rfl | rfl | rfl | rfl | rfl | rfl | rfl | rfl | rfl | rfl | rfl | rfl | rfl
              · exact hp
              · exact hp
              · exact hp
              · exact hp
              · exact hp
              · exact hp
              · exact hp
              · exact VLs.dr hp hr (by decide)
              · exact hp
              · exact hp
              · exact hp
              · exact VLs.dr hp hr (by decide)
              · exact hp
              · exact hp
              · exact hp
              · exact hp
              · exact hp
              · exact VLs.dr hp hr (by decide)
              · exact hp
              · exact hp
              · exact hp
              · exact VLs.dr hp hr (by decide)
              · exact VLs.dr hp hr (by decide))) (fun j _ _ h hb => hb.either (fun hb => ⟨h.1.below hb, h.2.then hb⟩) (fun hr => ⟨h.1.dr hr (by decide) (by decide), h.2.trans hr⟩)) (⟨L4.below (Below.refl _ _).drew, (Dr.refl D4.s').then (Below.refl _ _).drew⟩) (fun x => ?_)
          refine obs_stepR (Eq.trans (by simp only [zA, zC]; exact rfl) rfl) rfl (fun w' hS hV K hK => ?_) ?_
          · go_simp
            exact hK.out _ _ _ rfl rfl rfl (Below.refl _ _)
          simp only [zD, zE, zF]
          refine obs_stepR (Eq.trans (by simp only [zA, zB, zC]; exact rfl) rfl) rfl (fun w' hS hV K hK => ?_) ?_
          · go_simp
            exact hK.out _ _ _ rfl rfl rfl (Below.refl _ _)
          simp only [zD, zE, zF]
          refine obs_stepR (Eq.trans (by simp only [zA, zB, zC]; exact rfl) rfl) rfl (fun w' hS hV K hK => ?_) ?_
          · go_simp
            exact hK.out _ _ _ rfl rfl rfl (Below.refl _ _)
          simp only [zD, zE, zF]
          refine obs_stepR (Eq.trans (by simp only [zA, zB, zC]; exact rfl) rfl) rfl (fun w' hS hV K hK => ?_) ?_
          · go_simp
            exact hK.out _ _ _ rfl rfl rfl (Below.refl _ _)
          simp only [zD, zE, zF]
          refine obs_stepR (Eq.trans (by simp only [zA, zB, zC]; exact rfl) rfl) rfl (fun w' hS hV K hK => ?_) ?_
          · go_simp
            exact hK.out _ _ _ rfl rfl rfl (Below.refl _ _)
          simp only [zD, zE, zF]
          refine obs_stepR (Eq.trans (by simp only [zA, zB, zC]; exact rfl) rfl) rfl (fun w' hS hV K hK => ?_) ?_
          · have e3 : x 3 = (.pointer (some ⟨g, 0, none⟩)) := hV 3 (by decide)
            have e4 : x 4 = (.int .i64 (k)) := hV 4 (by decide)
            go_simp
            refine (next_any g (k : Int) w' hS.2.s' (by omega)).mono ?_
            rintro e v1 ⟨r9, rfl, t8, t9, hd9⟩
            exact hK.out _ _ _ rfl rfl ⟨r9, rfl, t8, t9 (by omega)⟩ hd9
          simp only [zD, zE, zF]
          refine obs_stepR (Eq.trans (by simp only [zA, zB, zC]; exact rfl) rfl) rfl (fun w' hS hV K hK => ?_) ?_
          · have e2 : x 2 = (.slice (some ⟨gl, ol, none⟩) k c0) := hV 2 (by decide)
            obtain ⟨k5, e5, b5, d5⟩ := hV 5 (by decide)
            obtain ⟨j, rfl⟩ : ∃ j : Nat, k5 = (j : Int) := ⟨k5.toNat, by omega⟩
            have b8 : (0 : Int) ≤ (j : Int) := by omega
            have b9 : (j : Int) < (k : Int) := by omega
            go_simp
            exact hK.out _ _ _ rfl rfl ⟨j, by omega, rfl⟩ (Below.refl _ _)
          simp only [zD, zE, zF]
          refine obs_stepR (Eq.trans (by simp only [zA, zB, zC]; exact rfl) rfl) rfl (fun w' hS hV K hK => ?_) ?_
          · obtain ⟨k5, e5, b5, d5⟩ := hV 5 (by decide)
            obtain ⟨j6, b6, e6⟩ := hV 6 (by decide)
            obtain ⟨g9, o9, hx9, R9, f9, e9, -, hrow9, hr9⟩ := hS.1.at_ b6
            cases e9
            have hl9 := HTL.out _ (List.getElem_mem hx9)
            have t9 := hrow9.cell
            rw [hl9.1] at t9 hr9
            go_simp
            exact hK.out _ _ _ rfl rfl ⟨_, _, _, rfl, hl9.1, hl9.2, hr9.base (Nat.zero_le _)⟩ (Below.refl _ _)
          simp only [zD, zE, zF]
          refine obs_stepR (Eq.trans (by simp only [zA, zB, zC]; exact rfl) rfl) rfl (fun w' hS hV K hK => ?_) ?_
          · go_simp
            exact hK.out _ _ _ rfl rfl rfl (Below.refl _ _)
          simp only [zD, zE, zF]
          refine obs_stepR (Eq.trans (by simp only [zA, zB, zC]; exact rfl) rfl) rfl (fun w' hS hV K hK => ?_) ?_
          · go_simp
            exact hK.out _ _ _ rfl rfl rfl (Below.refl _ _)
          simp only [zD, zE, zF]
          refine obs_stepR (Eq.trans (by simp only [zA, zB, zC]; exact rfl) rfl) rfl (fun w' hS hV K hK => ?_) ?_
          · obtain ⟨k5, e5, b5, d5⟩ := hV 5 (by decide)
            have e8 : x 8 = (.pointer (some ⟨g, 0, none⟩)) := hV 8 (by decide)
            have e9 : x 9 = (.int .i64 (p)) := hV 9 (by decide)
            go_simp
            refine (next_any g p w' hS.2.s' (by omega)).mono ?_
            rintro e v1 ⟨r9, rfl, t8, t9, hd9⟩
            exact hK.out _ _ _ rfl rfl ⟨r9, rfl, t8, t9 (by omega)⟩ hd9
          simp only [zD, zE, zF]
          refine obs_stepR (Eq.trans (by simp only [zA, zB, zC]; exact rfl) rfl) rfl (fun w' hS hV K hK => ?_) ?_
          · have e1 : x 1 = (.int .i64 (p)) := hV 1 (by decide)
            obtain ⟨k5, e5, b5, d5⟩ := hV 5 (by decide)
            obtain ⟨j6, b6, e6⟩ := hV 6 (by decide)
            obtain ⟨A7, c7, X7, e7, l7, u7, h7⟩ := hV 7 (by decide)
            obtain ⟨k10, e10, b10, d10⟩ := hV 10 (by decide)
            go_simp
            refine (l02Scale_any p A7 cols c7 k10 X7 w' hp hp2 (by omega) h7.rd u7 (by omega) (by omega)).mono ?_
            rintro e v1 ⟨A9, c9, rfl, hM⟩
            exact hK.out _ _ _ rfl rfl ⟨_, _, _, rfl, by rw [scaleL_len]; exact l7, scaleL_nums (by omega) _ _, hM.2.base (Nat.zero_le _)⟩ hM.b
          simp only [zD, zE, zF]
          refine obs_stepR (Eq.trans (by simp only [zA, zB, zC]; exact rfl) rfl) rfl (fun w' hS hV K hK => ?_) ?_
          · go_simp
            exact hK.out _ _ _ rfl rfl rfl (Below.refl _ _)
          simp only [zD, zE, zF]
          refine obs_stepR (Eq.trans (by simp only [zA, zB, zC]; exact rfl) rfl) rfl (fun w' hS hV K hK => ?_) ?_
          · go_simp
            exact hK.out _ _ _ rfl rfl rfl (Below.refl _ _)
          simp only [zD, zE, zF]
          refine obs_stepR (Eq.trans (by simp only [zA, zB, zC]; exact rfl) rfl) rfl (fun w' hS hV K hK => ?_) ?_
          · go_simp
            exact hK.out _ _ _ rfl rfl rfl (Below.refl _ _)
          simp only [zD, zE, zF]
          refine obs_stepR (Eq.trans (by simp only [zA, zB, zC]; exact rfl) rfl) rfl (fun w' hS hV K hK => ?_) ?_
          · obtain ⟨k5, e5, b5, d5⟩ := hV 5 (by decide)
            obtain ⟨j6, b6, e6⟩ := hV 6 (by decide)
            obtain ⟨A7, c7, X7, e7, l7, u7, h7⟩ := hV 7 (by decide)
            obtain ⟨k10, e10, b10, d10⟩ := hV 10 (by decide)
            obtain ⟨A11, c11, X11, e11, l11, u11, h11⟩ := hV 11 (by decide)
            have e13 : x 13 = (.pointer (some ⟨g, 0, none⟩)) := hV 13 (by decide)
            have e14 : x 14 = (.int .i64 (k)) := hV 14 (by decide)
            go_simp
            refine (next_any g (k : Int) w' hS.2.s' (by omega)).mono ?_
            rintro e v1 ⟨r9, rfl, t8, t9, hd9⟩
            exact hK.out _ _ _ rfl rfl ⟨r9, rfl, t8, t9 (by omega)⟩ hd9
          simp only [zD, zE, zF]
          refine obs_stepR (Eq.trans (by simp only [zA, zB, zC]; exact rfl) rfl) rfl (fun w' hS hV K hK => ?_) ?_
          · obtain ⟨k5, e5, b5, d5⟩ := hV 5 (by decide)
            obtain ⟨j6, b6, e6⟩ := hV 6 (by decide)
            obtain ⟨A7, c7, X7, e7, l7, u7, h7⟩ := hV 7 (by decide)
            obtain ⟨k10, e10, b10, d10⟩ := hV 10 (by decide)
            obtain ⟨A11, c11, X11, e11, l11, u11, h11⟩ := hV 11 (by decide)
            have e12 : x 12 = (.slice (some ⟨gl, ol, none⟩) k c0) := hV 12 (by decide)
            obtain ⟨k15, e15, b15, d15⟩ := hV 15 (by decide)
            obtain ⟨j, rfl⟩ : ∃ j : Nat, k15 = (j : Int) := ⟨k15.toNat, by omega⟩
            have b8 : (0 : Int) ≤ (j : Int) := by omega
            have b9 : (j : Int) < (k : Int) := by omega
            go_simp
            exact hK.out _ _ _ rfl rfl ⟨j, by omega, rfl⟩ (Below.refl _ _)
          simp only [zD, zE, zF]
          refine obs_stepR (Eq.trans (by simp only [zA, zB, zC]; exact rfl) rfl) rfl (fun w' hS hV K hK => ?_) ?_
          · obtain ⟨k5, e5, b5, d5⟩ := hV 5 (by decide)
            obtain ⟨j6, b6, e6⟩ := hV 6 (by decide)
            obtain ⟨A7, c7, X7, e7, l7, u7, h7⟩ := hV 7 (by decide)
            have e9 : x 9 = (.int .i64 (p)) := hV 9 (by decide)
            obtain ⟨k10, e10, b10, d10⟩ := hV 10 (by decide)
            obtain ⟨A11, c11, X11, e11, l11, u11, h11⟩ := hV 11 (by decide)
            obtain ⟨k15, e15, b15, d15⟩ := hV 15 (by decide)
            obtain ⟨j16, b16, e16⟩ := hV 16 (by decide)
            obtain ⟨g9, o9, hx9, R9, f9, e9, -, hrow9, hr9⟩ := hS.1.at_ b16
            cases e9
            have hl9 := HTL.out _ (List.getElem_mem hx9)
            have t9 := hrow9.cell
            rw [hl9.1] at t9 hr9
            go_simp
            exact hK.out _ _ _ rfl rfl ⟨_, _, _, rfl, hl9.1, hl9.2, hr9.base (Nat.zero_le _)⟩ (Below.refl _ _)
          simp only [zD, zE, zF]
          refine obs_stepR (Eq.trans (by simp only [zA, zB, zC]; exact rfl) rfl) rfl (fun w' hS hV K hK => ?_) ?_
          · go_simp
            exact hK.out _ _ _ rfl rfl rfl (Below.refl _ _)
          simp only [zD, zE, zF]
          refine obs_stepR (Eq.trans (by simp only [zA, zB, zC]; exact rfl) rfl) rfl (fun w' hS hV K hK => ?_) ?_
          · go_simp
            exact hK.out _ _ _ rfl rfl rfl (Below.refl _ _)
          simp only [zD, zE, zF]
          refine obs_stepR (Eq.trans (by simp only [zA, zB, zC]; exact rfl) rfl) rfl (fun w' hS hV K hK => ?_) ?_
          · obtain ⟨k5, e5, b5, d5⟩ := hV 5 (by decide)
            obtain ⟨j6, b6, e6⟩ := hV 6 (by decide)
            obtain ⟨A7, c7, X7, e7, l7, u7, h7⟩ := hV 7 (by decide)
            obtain ⟨k10, e10, b10, d10⟩ := hV 10 (by decide)
            obtain ⟨A11, c11, X11, e11, l11, u11, h11⟩ := hV 11 (by decide)
            obtain ⟨k15, e15, b15, d15⟩ := hV 15 (by decide)
            have e18 : x 18 = (.pointer (some ⟨g, 0, none⟩)) := hV 18 (by decide)
            have e19 : x 19 = (.int .i64 (p)) := hV 19 (by decide)
            go_simp
            refine (next_any g p w' hS.2.s' (by omega)).mono ?_
            rintro e v1 ⟨r9, rfl, t8, t9, hd9⟩
            exact hK.out _ _ _ rfl rfl ⟨r9, rfl, t8, t9 (by omega)⟩ hd9
          simp only [zD, zE, zF]
          refine obs_stepR (Eq.trans (by simp only [zA, zB, zC]; exact rfl) rfl) rfl (fun w' hS hV K hK => ?_) ?_
          · have e0 : x 0 = (.int .i64 (p)) := hV 0 (by decide)
            obtain ⟨k5, e5, b5, d5⟩ := hV 5 (by decide)
            obtain ⟨j6, b6, e6⟩ := hV 6 (by decide)
            obtain ⟨A7, c7, X7, e7, l7, u7, h7⟩ := hV 7 (by decide)
            obtain ⟨k10, e10, b10, d10⟩ := hV 10 (by decide)
            obtain ⟨A11, c11, X11, e11, l11, u11, h11⟩ := hV 11 (by decide)
            obtain ⟨k15, e15, b15, d15⟩ := hV 15 (by decide)
            obtain ⟨j16, b16, e16⟩ := hV 16 (by decide)
            obtain ⟨A17, c17, X17, e17, l17, u17, h17⟩ := hV 17 (by decide)
            obtain ⟨k20, e20, b20, d20⟩ := hV 20 (by decide)
            go_simp
            refine (l02Plus_any p A11 cols c11 A17 cols c17 k20 X11 X17 w' hp hp2 (by omega) (Nat.le_refl _) h11.rd u11 h17.rd u17 (by omega) (by omega)).mono ?_
            rintro e v1 ⟨A9, c9, rfl, hM⟩
            exact hK.out _ _ _ rfl rfl ⟨_, _, _, rfl, by rw [plusL_len]; exact l11, plusL_nums (by omega) _ _ _, hM.2.base hS.2.size⟩ hM.b
          simp only [zD, zE, zF]
          refine obs_stepR (Eq.trans (by simp only [zA, zB, zC]; exact rfl) rfl) rfl (fun w' hS hV K hK => ?_) ?_
          · obtain ⟨k5, e5, b5, d5⟩ := hV 5 (by decide)
            obtain ⟨j6, b6, e6⟩ := hV 6 (by decide)
            obtain ⟨A7, c7, X7, e7, l7, u7, h7⟩ := hV 7 (by decide)
            obtain ⟨k10, e10, b10, d10⟩ := hV 10 (by decide)
            obtain ⟨A11, c11, X11, e11, l11, u11, h11⟩ := hV 11 (by decide)
            obtain ⟨k15, e15, b15, d15⟩ := hV 15 (by decide)
            obtain ⟨j16, b16, e16⟩ := hV 16 (by decide)
            obtain ⟨A17, c17, X17, e17, l17, u17, h17⟩ := hV 17 (by decide)
            obtain ⟨k20, e20, b20, d20⟩ := hV 20 (by decide)
            obtain ⟨A21, c21, X21, e21, l21, u21, h21⟩ := hV 21 (by decide)
            go_simp
            exact hK.out _ _ _ rfl rfl ⟨_, _, _, rfl, l21, u21, h21⟩ (Below.refl _ _)
          simp only [zD, zE, zF]
          refine fun w' hS hV => ?_
          have e0 : x 0 = (.int .i64 (p)) := hV 0 (by decide)
          have e1 : x 1 = (.int .i64 (p)) := hV 1 (by decide)
          have e2 : x 2 = (.slice (some ⟨gl, ol, none⟩) k c0) := hV 2 (by decide)
          have e3 : x 3 = (.pointer (some ⟨g, 0, none⟩)) := hV 3 (by decide)
          have e4 : x 4 = (.int .i64 (k)) := hV 4 (by decide)
          obtain ⟨k5, e5, b5, d5⟩ := hV 5 (by decide)
          obtain ⟨j6, b6, e6⟩ := hV 6 (by decide)
          obtain ⟨A7, c7, X7, e7, l7, u7, h7⟩ := hV 7 (by decide)
          have e8 : x 8 = (.pointer (some ⟨g, 0, none⟩)) := hV 8 (by decide)
          have e9 : x 9 = (.int .i64 (p)) := hV 9 (by decide)
          obtain ⟨k10, e10, b10, d10⟩ := hV 10 (by decide)
          obtain ⟨A11, c11, X11, e11, l11, u11, h11⟩ := hV 11 (by decide)
          have e12 : x 12 = (.slice (some ⟨gl, ol, none⟩) k c0) := hV 12 (by decide)
          have e13 : x 13 = (.pointer (some ⟨g, 0, none⟩)) := hV 13 (by decide)
          have e14 : x 14 = (.int .i64 (k)) := hV 14 (by decide)
          obtain ⟨k15, e15, b15, d15⟩ := hV 15 (by decide)
          obtain ⟨j16, b16, e16⟩ := hV 16 (by decide)
          obtain ⟨A17, c17, X17, e17, l17, u17, h17⟩ := hV 17 (by decide)
          have e18 : x 18 = (.pointer (some ⟨g, 0, none⟩)) := hV 18 (by decide)
          have e19 : x 19 = (.int .i64 (p)) := hV 19 (by decide)
          obtain ⟨k20, e20, b20, d20⟩ := hV 20 (by decide)
          obtain ⟨A21, c21, X21, e21, l21, u21, h21⟩ := hV 21 (by decide)
          obtain ⟨A22, c22, X22, e22, l22, u22, h22⟩ := hV 22 (by decide)
          simp only [e0, e1, e2, e3, e4, e5, e6, e7, e8, e9, e10, e11, e12, e13, e14, e15, e16, e17, e18, e19, e20, e21, e22]
          clear e0 e1 e2 e3 e4 e5 e6 e7 e8 e9 e10 e11 e12 e13 e14 e15 e16 e17 e18 e19 e20 e21 e22
          refine wpAny_done (by kernel_rfl) ?_ _
          obtain ⟨-, d6⟩ := hS
          have D8 := Lib.hid (D5.out.trans d6)
          have V8 := Lib.hid (h22.base (B' := wo.heap.size) D5.out.size)
          have HVL := Lib.hid (show X22.length = cols ∧ NumsL p X22 from ⟨l22, u22⟩)
          clear d6 h22 L4 D4 D5
          obtain ⟨w6, hw6⟩ : ∃ W, W = w' := ⟨_, rfl⟩
          rw [← hw6] at D8 V8 ⊢
          clear hw6
          go_wp2_with (at_builtin; (refine wpList_pushRow w wo w6 g 225 rfl _ _ rfl (some ⟨gl, ol, none⟩) k c0 L A22 cols c22 X22 HL.out HD.out D8.out (by decide) (by decide) V8.out (by omega) rfl ?_ ?_; (go_simp); intro A9 c9 w9 h9 d9 kp))
          have HL9 := Lib.hid h9
          have D9 := Lib.hid d9
          have HT9 := Lib.hid (show Tab p cols (L ++ [X22]) from fun u hu => by
            rcases List.mem_append.1 hu with hu | hu
            · exact HTL.out u hu
            · rw [List.mem_singleton.1 hu]; exact HVL.out)
          clear h9 d9 kp
          go_wp2
          go_roundw
          case rel => exact ⟨k + 1, A9, c9, L ++ [X22], by omega, by go_num, rfl, HT9.out, HL9.out, D9.out⟩
          case measure => simp [intOf]; omega
        · have e8 : (r8 == 0) = false := by simp [h8]
          have D8 := Lib.hid d4
          have V8 := Lib.hid (hv.dr hd8 (by decide))
          clear hnx hd3 hd8 hv d4
          go_wp2_with (at_builtin; (refine wpList_pushRow w wo w4 g 225 rfl _ _ rfl A0 k c0 L A1 cols c1 v HL.out HD.out D8.out (by decide) (by decide) V8.out (by omega) rfl ?_ ?_; (go_simp); intro A9 c9 w9 h9 d9 kp))
          have HL9 := Lib.hid h9
          have D9 := Lib.hid d9
          have HT9 := Lib.hid (show Tab p cols (L ++ [v]) from fun u hu => by
            rcases List.mem_append.1 hu with hu | hu
            · exact HTL.out u hu
            · rw [List.mem_singleton.1 hu]; exact HVL.out)
          clear h9 d9 kp
          go_wp2
          go_roundw
          case rel => exact ⟨k + 1, A9, c9, L ++ [v], by omega, by go_num, rfl, HT9.out, HL9.out, D9.out⟩
          case measure => simp [intOf]; omega
      · have t1 : decide ((0 : Int) < (k : Int)) = false := by simp; omega
        have D8 := Lib.hid hd3
        have V8 := Lib.hid hv
        clear hd3 hv
        go_wp2_with (at_builtin; (refine wpList_pushRow w wo w3 g 225 rfl _ _ rfl A0 k c0 L A1 cols c1 v HL.out HD.out D8.out (by decide) (by decide) V8.out (by omega) rfl ?_ ?_; (go_simp); intro A9 c9 w9 h9 d9 kp))
        have HL9 := Lib.hid h9
        have D9 := Lib.hid d9
        have HT9 := Lib.hid (show Tab p cols (L ++ [v]) from fun u hu => by
          rcases List.mem_append.1 hu with hu | hu
          · exact HTL.out u hu
          · rw [List.mem_singleton.1 hu]; exact HVL.out)
        clear h9 d9 kp
        go_wp2
        go_roundw
        case rel => exact ⟨k + 1, A9, c9, L ++ [v], by omega, by go_num, rfl, HT9.out, HL9.out, D9.out⟩
        case measure => simp [intOf]; omega
    · obtain rfl : k = rows := by omega
      go_wp2
      go_ret
      exact ⟨_, _, _, rfl, HTL.out, HL.out, HD.out⟩
/-- A space and a matrix, drawn. -/
def DrewQ (w : World) (e : Ending) (w' : World) : Prop := ∃ (P : Int) (A : Option Addr) (n c : Nat) (sq : List Int) (AL : Option Addr) (r cl m : Nat) (L : List (List Int)), e = .returned (.tuple #[.agg #[.int .i64 P, .slice A n c], .slice AL r cl]) ∧ P ≤ 17 ∧ n ≤ 7 ∧ 0 < r ∧ r ≤ 16 ∧ 1 ≤ m ∧ m ≤ 16 ∧ Rect m L ∧ Own w' w.heap.size 2 A n c (ints sq) ∧ OwnM w' w.heap.size AL r cl L ∧ Below w.heap.size w w'
end Go.Proofs.YtdbibmilicjllaaGreat
